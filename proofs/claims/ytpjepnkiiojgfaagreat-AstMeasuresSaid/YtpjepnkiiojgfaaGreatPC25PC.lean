/- Part of the proof: functions of the program. No condition. -/
import Derived.Test.YtpjepnkiiojgfaaGreatPC25AV
import Derived.Test.YtpjepnkiiojgfaaGreatPC25E
import Derived.Test.YtpjepnkiiojgfaaGreatPC25AU
import Derived.Test.YtpjepnkiiojgfaaGreatPEnv
import Derived.Test.YtpjepnkiiojgfaaGreatMr
import Derived.Test.YtpjepnkiiojgfaaGreatPC25MA
set_option linter.unusedVariables false
set_option linter.unusedSimpArgs false
set_option linter.unusedSectionVars false
noncomputable section
namespace Go.Proofs.YtpjepnkiiojgfaaGreat
open Go Go.Eng Go.Rx Go.Proofs Go.RowKit
set_option maxRecDepth 100000
theorem Zxg(r:Ru)(m:Mem)(hr:RepR m r):CX Tryz.prog 30 #[.agg r.cs.toArray] m [] (Ret (.int .i64 (ZwE r))):=by
 have pi:r.acts.length<=100000:=hr.len
 apply Zon
 intro b m2 cI _
 refine⟨_,trivial,ZsS r m2 (hr.mono cI),Zfb,?_⟩
 rintro n a n1 c a1 n2 c1 m3 aP ⟨s,hv,hs,eW,oh⟩
 rw[hv]
 have dG:=mLt cI aP
 refine Zag (ZbW s m3 hs) λm4 bU=>Zab (λh=>Zaf (mLt dG bU) ?_) (λh=>?_)
 ·have hl:ZhD r=false:=by rw[<-eW];simpa using h
  show Value.int _ _=Value.int _ _
  unfold ZwE
  rw[hl];rfl
 have hl:ZhD r=true:=by rw[<-eW];simpa using h
 have fO:=mLt dG bU
 intro b3
 refine⟨_,trivial,ZsS r m4 (hr.mono fO),Zfb,?_⟩
 rintro n' a' n1' c' a1' n2' c1' m5 cC ⟨s',hv',hs',uk,oH⟩
 rw[hv']
 have gn:=mLt fO cC
 refine Zan (Zhq s' m5) (λv m' css h=>by obtain⟨_,rfl,_⟩:=h;rfl) ?_
 rintro g fi ca m6 eS ⟨b5,fU,ul⟩
 obtain⟨rfl,rfl,rfl⟩:=Zcn fU
 have gi:=mLt gn eS
 have qA:=ZfM s' m6 b5 (hs'.mono eS) ul
 rw[oH]at qA
 have um:=hr.mono gi
 refine⟨_,qA,λy hy=>?_,λ_ css tvs mm q=>q<=r.acts.length/\css=[[.int .i64 ((r.acts.take q).foldl ZvD (-1))]],⟨by omega,rfl⟩,?_,?_⟩
 ·obtain⟨z,_,rfl⟩:=List.mem_map.1 hy;rfl
 ·rintro k0 s0 pa pn pc k1 x1 s1 g1 sa sn sc cs mm q jj hq ⟨ib,bL⟩ b6
  obtain rfl:cs=_:=by simpa using bL
  have hq':(List.map (λa:Ac=>[Value.agg a.cs.toArray]) r.acts)[(q:Nat)]?=some [Value.agg #[.int .u8 k0,.string s0,.slice pa pn pc,.int .u8 k1,x1,.string s1,.int .i64 g1,.slice sa sn sc]]:=hq
  rw[List.getElem?_map]at hq'
  obtain⟨x,hx,qB⟩:=Option.map_eq_some_iff.1 hq'
  have qc:=(zA0 hx).1
  simp only[Ac.cs,List.cons.injEq,Value.agg.injEq,Array.mk.injEq,Value.int.injEq,Value.string.injEq,Value.slice.injEq,true_and,and_true]at qB
  obtain⟨rfl,rfl,⟨rfl,rfl,rfl⟩,rfl,rfl,rfl,rfl,rfl,rfl,rfl⟩:=qB
  have cB:=Ze4 ZvD (-1) hx
  have dB:=um.all x (zA2 hx)
  have jP:x.parts.length<=100000:=dB.n
  generalize (r.acts.take q).foldl ZvD (-1)=o at cB ⊢
  have hu:ZvD o x=x.parts.foldl ZlY (if x.k=3 then mxI o x.e.most else o):=rfl
  refine Zaa rfl ⟨λ_ css _ mm'=>m6.le mm'/\css=[[.int .i64 (if x.k=3 then mxI o x.e.most else o)]],Zab (λh=>?_) (λh=>?_),?_⟩
  ·have h:x.k=3:=by simpa using h
   refine⟨λ_ _ _=>_,Zak rfl ⟨_,rfl,Zrd x.e mm (RepE.mono' dB.e jj),(λv _ _ h=>by rw[show v=_ from h];rfl),?_⟩⟩
   intro n8 m8 fh ye
   obtain rfl:n8=_:=by simpa using(show Value.int .i64 n8=Value.int .i64 _ from ye)
   refine Zaa rfl λM hM vX=>⟨rfl,mLt jj hM,?_⟩
   rw[if_pos h];rfl
  ·have h:¬x.k=3:=by simpa using h
   exact⟨rfl,jj,by rw[if_neg h]⟩
  rintro cs m7 _ ⟨fG,bL⟩
  obtain rfl:cs=_:=by simpa using bL
  generalize (if x.k=3 then mxI o x.e.most else o)=o1 at hu ⊢
  refine⟨λxs css _ mm' q=>∃j:Nat,j<=x.parts.length/\xs=[.int .i64 j]/\css=[[.int .i64 ((x.parts.take j).foldl ZlY o1)]]/\q=x.parts.length - j,⟨_,0,by omega,rfl,rfl,rfl⟩,?_⟩
  rintro z cs m8 q2 fh ⟨j,hj,hz,bL,rfl⟩
  obtain rfl:z=j:=by simpa using hz
  obtain rfl:cs=_:=by simpa using bL
  have kJ:IntKind.i64.wrap ((j:Int)+1)=((j+1:Nat):Int):=by rw[Zal (by omega) (by omega)];rfl
  have rO:=mLt fG fh
  refine ZaA (λaC=>?_) (λbJ=>?_)
  ·have aC:(j:Int) < (x.parts.length:Nat):=aC
   obtain⟨p,hp⟩:=Zdz (show j < x.parts.length by omega)
   have rS:=dB.mono rO
   obtain⟨b8,o8,oG,oI⟩:=Zaj Pt.len rS.row hp (by omega)
   have gG:=rS.all p (zA2 hp)
   have fH:=Ze4 ZlY o1 hp
   generalize (x.parts.take j).foldl ZlY o1=o' at fH ⊢
   refine⟨b8,o8,oG,⟨by omega,aC⟩,_,_,_,_,_,_,_,_,oI,λb9=>Zaa rfl (Zaa rfl (Zab (λh=>Zak rfl (Zaa rfl ⟨rfl,x.parts.length - (j+1),by omega,j+1,by omega,by rw[kJ],?_,rfl⟩)) (λh=>Zaa rfl (Zab (λh2=>?_) (λh2=>⟨rfl,x.parts.length - (j+1),by omega,j+1,by omega,by rw[kJ],?_,rfl⟩)))))⟩
   ·have h:(p.k == 3)=true:=h
    rw[fH,show ZlY o' p=mxI o' p.g by unfold ZlY;rw[if_pos (by simpa using h)]];rfl
   ·have h:(p.k == 3)=false:=h
    have h2:(p.k == 4)=true:=h2
    refine⟨λ_ _ _=>_,Zak rfl ⟨_,rfl,Zrd p.e m8 gG.e,(λv _ _ h=>by rw[show v=_ from h];rfl),?_⟩⟩
    intro n10 m10 i7 uq
    obtain rfl:n10=_:=by simpa using(show Value.int .i64 n10=Value.int .i64 _ from uq)
    refine Zaa rfl λM hM qF=>⟨rfl,x.parts.length - (j+1),by omega,j+1,by omega,by rw[kJ],?_,rfl⟩
    rw[fH,show ZlY o' p=mxI o' p.e.most by unfold ZlY;rw[if_neg (by simpa using h),if_pos (by simpa using h2)]];rfl
   ·have h:(p.k == 3)=false:=h
    have h2:(p.k == 4)=false:=h2
    rw[fH,show ZlY o' p=o' by unfold ZlY;rw[if_neg (by simpa using h),if_neg (by simpa using h2)]]
  ·have bJ:¬(j:Int) < (x.parts.length:Nat):=bJ
   have hj:j=x.parts.length:=by omega
   subst hj
   rw[List.take_length,<-hu,<-cB]
   exact⟨rfl,by omega,rfl⟩
 ·rintro cs m7 fG ⟨_,bL⟩
  rw[List.length_map,List.take_length]at bL
  obtain rfl:cs=_:=by simpa using bL
  refine Zak rfl (Zaf (mLt gi fG) ?_)
  show Value.int _ _=Value.int _ _
  unfold ZwE
  rw[hl,if_pos rfl]
theorem ZpK(L:List Pl):(L.map Pl.cs).flatten.length=L.length*5:=by
 induction L with
 | nil=>rfl
 | cons x l ih=>rw[List.map_cons,List.flatten_cons,zA1,ih,List.length_cons,Nat.succ_mul];show 5+_=_;omega
def PI(L:List Pl)(v t:Value)(m:Mem):Prop:=∃a c a1 n1 c1,v=.slice a L.length c/\t=.slice a1 n1 c1/\((a1=a/\n1=L.length/\c1=c)\/c < L.length+1)/\rowRd m a (L.map Pl.cs).flatten
theorem PI.mono{L:List Pl}{v t:Value}{m m':Mem}(h:PI L v t m)(hm:m.le m'):PI L v t m':=by
 obtain⟨a,c,a1,n1,c1,h1,h2,h3,h4⟩:=h
 exact⟨a,c,a1,n1,c1,h1,h2,h3,h4.mono hm⟩
theorem PI.app{L:List Pl}{a a1:Option Addr}{n c n1 c1:Nat}{m:Mem}{b:Nat}{Q:Option Addr->Nat->Mem->Prop}(z:Pl)(h:PI L (.slice a n c) (.slice a1 n1 c1) m)(hb:L.length<=30000)(hf:m.free b)
  (k:∀(a':Option Addr)(c':Nat)(m':Mem),m.le m'->PI (L++[z]) (.slice a' (n+1) c') (.slice a' (n+1) c') m'->Q a' c' m'):
  (Tok.mk (.slice a1 n1 c1) 5=Tok.mk (.slice a n c) 5\/Value.slice a n c=.slice none 0 0\/c < n+1)/\∃xs ys:List Value,xs.length=n*5/\ys.length=1*5/\rowRd (m.add b z.cs) a xs/\rowRd (m.add b z.cs) (some ⟨b,0,none⟩) ys/\(∀u∈ys,u.oneCell'=true)/\
   (n+1)*40<=140737488355328/\n+1<=9223372036854775807/\∀(a':Option Addr)(c':Nat)(m':Mem),(m.add b z.cs).le m'->rowRd m' a' (List.append xs ys)->Q a' c' m':=by
 obtain⟨a0,c0,a10,n10,c10,h1,h2,h3,h4⟩:=h
 simp only[Value.slice.injEq]at h1 h2
 obtain⟨rfl,rfl,rfl⟩:=h1
 obtain⟨rfl,rfl,rfl⟩:=h2
 have bQ:m.le (m.add b z.cs):=Mem.le_add hf _
 refine⟨?_,(L.map Pl.cs).flatten,z.cs,ZpK L,rfl,h4.mono bQ,.inr ⟨b,0,rfl,Zdd m b _⟩,?_,by omega,by omega,λa' c' m' hm' hr'=>k a' c' m' (mLt bQ hm') ⟨a',c',a',L.length+1,c',?_,rfl,.inl ⟨rfl,?_,rfl⟩,?_⟩⟩
 ·rcases h3 with⟨e1,e2,e3⟩|h3
  ·rw[e1,e2,e3];exact .inl rfl
  ·exact .inr (.inr h3)
 ·intro u hu
  simp only[Pl.cs,List.mem_cons,List.not_mem_nil,or_false]at hu
  rcases hu with rfl|rfl|rfl|rfl|rfl <;> rfl
 ·rw[zA1];rfl
 ·rw[zA1];rfl
 ·rw[List.map_append,List.flatten_append]
  have:(List.map Pl.cs [z]).flatten=z.cs:=by simp
  rw[this];exact hr'
def Zt0(s:Sc):Value->Mem->List (List Value)->Prop:=λv m _=>∃a c,v=.slice a s.places.length c/\rowRd m a (s.places.map Pl.cs).flatten
theorem Zou{s}:∀(v:Value)(m':Mem) (css:List (List Value)),Zt0 s v m' css->Shape.fits .slice v=true:=λv _ _ ⟨_,_,e,_⟩=>by rw[e];rfl
set_option maxHeartbeats 4000000 in
theorem ZsU(s:Sc)(m:Mem)(hr:RepC m s):CX Tryz.prog 11 #[s.v] m [] (Zt0 s):=by
 apply ZjH
 intro b m1 aE _
 have iJ:=hr.vlen
 have eW:=hr.len
 unfold few at iJ eW
 refine Zag (ZbW s m1 (hr.mono aE)) λm2 aI=>Zab (λhl=>?_) (λhl b2 qb=>?_)
 ·have hl:s.light=false:=by simpa using hl
  have he:s.places=[]:=by unfold Sc.places;rw[hl];rfl
  exact Zaf (mLt aE aI) ⟨none,0,by rw[he];rfl,by rw[he];exact .inl rfl⟩
 have hl:s.light=true:=by simpa using hl
 have j4:m2.le (m2.add b2 (Pl.cs top)):=Mem.le_add qb _
 have cI:=mLt aE (mLt aI j4)
 have jP:=Zpl s
 have mu:=Zi4 hl
 rw[mu,List.length_cons,zA1,show(Zdb s.vars.length Vf).length=s.vars.length from ZfE _ _]at jP
 have hw:∀k:Nat,k<=100000->IntKind.i64.wrap ((k:Int)+1)=((k+1:Nat):Int):=λk hk=>by rw[Zal (by omega) (by omega)];rfl
 have start:PI [top] (.slice (some ⟨b2,0,none⟩) 1 1) (.slice none 0 0) (m2.add b2 (Pl.cs top)):=⟨_,1,_,_,_,rfl,rfl,.inr (by decide),.inr ⟨b2,0,rfl,by simpa using Zdd m2 b2 (Pl.cs top)⟩⟩
 refine⟨λxs _ tks m' q=>∃(i:Nat)(v t:Value),i<=s.vars.length/\xs=[v,.int .i64 i]/\tks=[t]/\PI (top::Zdb i Vf) v t m'/\q=s.vars.length - i,⟨s.vars.length,0,_,_,by omega,rfl,rfl,start,rfl⟩,?_⟩
 rintro a n c i' a1 n2 c1 m3 q aP ⟨i,v,t,hi,hx,ht,hP,rfl⟩
 simp only[List.cons.injEq,Value.int.injEq,and_true,true_and]at hx ht
 obtain⟨rfl,rfl⟩:=hx
 subst ht
 have dG:=mLt cI aP
 have vY:(Zdb i Vf).length=i:=ZfE _ _
 refine ZaA (λaC b3 gA=>?_) (λbJ=>?_)
 ·have aC:(i:Int) < (s.vars.length:Int):=aC
  refine PI.app ⟨i,-1,-1,-1,-1⟩ hP (by rw[List.length_cons,vY];omega) gA λa' c' m' hm' hP'=>⟨rfl,s.vars.length - (i+1),by omega,i+1,_,_,by omega,by rw[hw i (by omega)],rfl,?_,rfl⟩
  rw[ZbS];exact hP'
 have bJ:¬(i:Int) < (s.vars.length:Int):=bJ
 obtain rfl:i=s.vars.length:=by omega
 generalize hB:top::Zdb s.vars.length Vf=B at hP
 have zm:B.length=s.vars.length+1:=by rw[<-hB,List.length_cons,vY]
 refine⟨λxs _ tks m' q=>∃(i:Nat)(v t:Value),i<=s.states.length/\xs=[v,.int .i64 i]/\tks=[t]/\PI (B++Zdb i (Ff s)) v t m'/\q=s.states.length - i,⟨s.states.length,0,_,_,by omega,rfl,rfl,by simpa[Zdb]using hP,rfl⟩,?_⟩
 rintro a n c i' a1 n2 c1 m4 q bU ⟨i,v,t,hi,hx,ht,hP,rfl⟩
 simp only[List.cons.injEq,Value.int.injEq,and_true,true_and]at hx ht
 obtain⟨rfl,rfl⟩:=hx
 subst ht
 have fO:=mLt dG bU
 refine ZaA (λaC=>?_) (λbJ=>?_)
 ·have aC:(i:Int) < (s.states.length:Int):=aC
  obtain⟨x,hx⟩:=Zdz (show i < s.states.length by omega)
  have dB:=hr.all x (zA2 hx)
  have iS:=dB.len
  unfold few at iS
  have hF:Ff s i=plS i x:=by unfold Ff;rw[hx]
  have eG:(Zdb i (Ff s)).length+(plS i x).length<=(Zdb s.states.length (Ff s)).length:=by
   have:=Zqs (show i+1<=s.states.length by omega) (Ff s)
   rw[ZbS,zA1,hF]at this;exact this
  rw[Zsg,List.length_cons]at eG
  obtain⟨b3,o3,fF,lQ⟩:=Zaj Sta.len (hr.row.mono fO) hx (by omega)
  refine⟨b3,o3,fF,⟨by omega,aC⟩,_,_,lQ,λb4=>Zaa rfl λb5 jE=>?_⟩
  refine PI.app ⟨-1,i,-1,-1,-1⟩ hP (by rw[zA1];omega) jE λa' c' m5 cC hP=>Zaa rfl ?_
  have gn:=mLt fO cC
  generalize qG:B++Zdb i (Ff s)=L1 at hP
  have ie:L1.length=B.length+(Zdb i (Ff s)).length:=by rw[<-qG,zA1]
  refine⟨λxs _ tks m' q=>∃(k:Nat)(v t:Value),k<=x.rules.length/\xs=[v,.int .i64 k]/\tks=[t]/\PI (L1++(⟨-1,i,-1,-1,-1⟩::Zdb k (Gf i x))) v t m'/\q=x.rules.length - k,⟨x.rules.length,0,_,_,by omega,rfl,rfl,by simpa[Zdb]using hP,rfl⟩,?_⟩
  rintro a n c k' a1 n2 c1 m6 q eS ⟨k,v,t,hk,hy,ht,hP,rfl⟩
  simp only[List.cons.injEq,Value.int.injEq,and_true,true_and]at hy ht
  obtain⟨rfl,rfl⟩:=hy
  subst ht
  have gi:=mLt gn eS
  refine ZaA (λdX=>?_) (λeE=>?_)
  ·have dX:(k:Int) < (x.rules.length:Int):=dX
   obtain⟨r,iN⟩:=Zdz (show k < x.rules.length by omega)
   have gD:=dB.all r (zA2 iN)
   have pi:=gD.len
   unfold few at pi
   have hG:Gf i x k=plR i k r:=by unfold Gf;rw[iN]
   have gj:(Zdb k (Gf i x)).length+(plR i k r).length<=(Zdb x.rules.length (Gf i x)).length:=by
    have:=Zqs (show k+1<=x.rules.length by omega) (Gf i x)
    rw[ZbS,zA1,hG]at this;exact this
   rw[Zsf,List.length_cons]at gj
   obtain⟨b6,o6,iw,ow⟩:=Zaj Ru.len (dB.row.mono gi) iN (by omega)
   refine Zaa rfl ⟨b6,o6,iw,⟨by omega,dX⟩,_,_,_,_,_,_,_,_,_,_,_,_,_,_,_,_,ow,λb7=>Zaa rfl λb8 oJ=>?_⟩
   refine PI.app ⟨-1,i,k,-1,-1⟩ hP (by rw[zA1,List.length_cons];omega) oJ λa' c' m7 fG hP=>Zaa rfl ?_
   have yf:=mLt gi fG
   generalize vZ:L1++(⟨-1,i,-1,-1,-1⟩::Zdb k (Gf i x))=L2 at hP
   have j0:L2.length=L1.length+1+(Zdb k (Gf i x)).length:=by rw[<-vZ,zA1,List.length_cons];omega
   refine⟨λxs _ tks m' q=>∃(j:Nat)(v t:Value),j<=r.acts.length/\xs=[v,.int .i64 j]/\tks=[t]/\PI (L2++(⟨-1,i,k,-1,-1⟩::Zdb j (Hf i k r))) v t m'/\q=r.acts.length - j,⟨r.acts.length,0,_,_,by omega,rfl,rfl,by simpa[Zdb]using hP,rfl⟩,?_⟩
   rintro a n c j' a1 n2 c1 m8 q fh ⟨j,v,t,hj,hy,ht,hP,rfl⟩
   simp only[List.cons.injEq,Value.int.injEq,and_true,true_and]at hy ht
   obtain⟨rfl,rfl⟩:=hy
   subst ht
   have rP:=mLt yf fh
   refine ZaA (λgW=>?_) (λgB=>?_)
   ·have gW:(j:Int) < (r.acts.length:Int):=gW
    obtain⟨y,oz⟩:=Zdz (show j < r.acts.length by omega)
    have iU:=gD.all y (zA2 oz)
    have ur:=iU.n
    unfold few at ur
    have hH:Hf i k r j=plA i k j y:=by unfold Hf;rw[oz]
    have fN:(Zdb j (Hf i k r)).length+(plA i k j y).length<=(Zdb r.acts.length (Hf i k r)).length:=by
     have:=Zqs (show j+1<=r.acts.length by omega) (Hf i k r)
     rw[ZbS,zA1,hH]at this;exact this
    rw[Zse,List.length_cons,show(Zdb y.parts.length (Pf i k j)).length=y.parts.length from ZfE _ _]at fN
    obtain⟨b9,o9,yg,yh⟩:=Zaj Ac.len (gD.row.mono rP) oz (by omega)
    refine Zaa rfl ⟨b9,o9,yg,⟨by omega,gW⟩,_,_,_,_,_,_,_,_,yh,λb10=>Zaa rfl λb11 ut=>?_⟩
    refine PI.app ⟨-1,i,k,j,-1⟩ hP (by rw[zA1,List.length_cons];omega) ut λa' c' m9 iz hP=>Zaa rfl ?_
    generalize rM:L2++(⟨-1,i,k,-1,-1⟩::Zdb j (Hf i k r))=L3 at hP
    have pb:L3.length=L2.length+1+(Zdb j (Hf i k r)).length:=by rw[<-rM,zA1,List.length_cons];omega
    refine⟨λxs _ tks m' q=>∃(w:Nat)(v t:Value),w<=y.parts.length/\xs=[v,.int .i64 w]/\tks=[t]/\PI (L3++(⟨-1,i,k,j,-1⟩::Zdb w (Pf i k j))) v t m'/\q=y.parts.length - w,⟨y.parts.length,0,_,_,by omega,rfl,rfl,by simpa[Zdb]using hP,rfl⟩,?_⟩
    rintro a n c w' a1 n2 c1 m10 q i7 ⟨w,v,t,zn,hy,ht,hP,rfl⟩
    simp only[List.cons.injEq,Value.int.injEq,and_true,true_and]at hy ht
    obtain⟨rfl,rfl⟩:=hy
    subst ht
    have rT:(Zdb w (Pf i k j)).length=w:=ZfE _ _
    refine ZaA (λlS b12 kL=>?_) (λlT=>?_)
    ·have lS:(w:Int) < (y.parts.length:Int):=lS
     refine PI.app ⟨-1,i,k,j,w⟩ hP (by rw[zA1,List.length_cons,rT];omega) kL λa' c' m' hm' hP'=>⟨rfl,rfl,y.parts.length - (w+1),by omega,w+1,_,_,by omega,by rw[hw w (by omega)],rfl,?_,rfl⟩
     rw[ZbS]
     simpa[Pf]using hP'
    ·have lT:¬(w:Int) < (y.parts.length:Int):=lT
     obtain rfl:w=y.parts.length:=by omega
     refine⟨rfl,rfl,r.acts.length - (j+1),by omega,j+1,_,_,by omega,by rw[hw j (by omega)],rfl,?_,rfl⟩
     rw[ZbS,hH,Zse]
     rw[<-rM]at hP
     simpa using hP
   ·have gB:¬(j:Int) < (r.acts.length:Int):=gB
    obtain rfl:j=r.acts.length:=by omega
    refine⟨rfl,rfl,x.rules.length - (k+1),by omega,k+1,_,_,by omega,by rw[hw k (by omega)],rfl,?_,rfl⟩
    rw[ZbS,hG,Zsf]
    rw[<-vZ]at hP
    simpa using hP
  ·have eE:¬(k:Int) < (x.rules.length:Int):=eE
   obtain rfl:k=x.rules.length:=by omega
   refine⟨rfl,rfl,s.states.length - (i+1),by omega,i+1,_,_,by omega,by rw[hw i (by omega)],rfl,?_,rfl⟩
   rw[ZbS,hF,Zsg]
   rw[<-qG]at hP
   simpa using hP
 ·have bJ:¬(i:Int) < (s.states.length:Int):=bJ
  obtain rfl:i=s.states.length:=by omega
  obtain⟨a0,c0,a10,n10,c10,h1,h2,h3,h4⟩:=hP
  have he:B++Zdb s.states.length (Ff s)=s.places:=by rw[mu,<-hB];rfl
  rw[he]at h1 h4
  rw[h1]
  exact⟨m4,fO,Mem.le_refl _,a0,c0,rfl,h4⟩
end Go.Proofs.YtpjepnkiiojgfaaGreat
namespace Go.Proofs.YtpjepnkiiojgfaaGreat
open Go Go.Eng Go.Proofs Go.RowKit
open Go.Value (int slice agg bool string tuple func)
open Go.IntKind (u8 u64 i64)
set_option maxRecDepth 100000
def Zov:Env:={ EB with
 joins:=(λi=>bif Nat.beq i 1 then some [(6,.bool)]else none)
 frzNew:=[3] }
theorem ZlM(aA:Int)(aW:Option Addr)(aS aX:Nat)(aO:Option Addr)(aJ aT:Nat)(p1 p2:Int)(m:Mem)(R:RT)(h:
 lV [int i64 aA,slice aW aS aX,slice aO aJ aT] λxL=>fzM m xL λb m'=>∃(b_1:Bool),lV [bool b_1] λxL_1=>lE [some (Box.mk b xL 32 3 true true)] λxL_2=>(kB Tryz.prog 19 [agg
 (Array.mk xL)] m' λb m'=>br b (br (decide (p1 ≥ (0:Int))) (br (decide (p1 < (↑aJ:Int))) (br (decide (p2 ≥ (0:Int))) (atA aO λb o=>Zae p1 aJ/\∃(v:Value),m' b (o+Int.toNat p1*2+1) =
 some v/\chk (ZbF v) (Zac xL_2/\[bool (decide (p2 < (↑(slN v):Int)))]=xL_1)) (Zac xL_2/\[bool false]=xL_1)) (Zac xL_2/\[bool false]=xL_1)) (Zac xL_2/\[bool false]=xL_1)) (Zac xL_2/\[bool
 false]=xL_1))/\rtM m m' R (bool b_1)):CX Tryz.prog 47 #[.agg #[.int .i64 aA,.slice aW aS aX,.slice aO aJ aT],.int .i64 p1,.int .i64 p2] m [] R:=
 Zad (E:=Zov) Zao mix Tryz.func47 (by kernel_rfl) (Eq.mp (by kernel_rfl) h)
def ZpL:Env:={ EB with
 dr:=(λi=>bif Nat.beq i 4 then[⟨0,[8],[],none,[],[]⟩,⟨1,[8],[],none,[0],[]⟩,⟨2,[],[],none,[],[]⟩,⟨3,[8],[],none,[],[]⟩,⟨4,[8],[],none,[3],[]⟩,⟨5,[],[],none,[],[]⟩,⟨6,[],[],none,[3,4,5],[]⟩,⟨7,[],[],none,[3,4,5,6],[]⟩,⟨8,[],[],none,[3,4,5,6,7],[]⟩,⟨9,[],[],none,[],[]⟩,⟨10,[],[],none,[],[]⟩,⟨11,[],[],none,[10],[]⟩,⟨12,[200],[200],none,[3,4,5,6,7,8,9,10,11],[]⟩]else[])
 borrow:=(λi=>bif Nat.beq i 29 then[200]else[])
 frzNew:=[3]
 acqB:=(λi=>bif Nat.beq i 4 then some 200 else none)
 thaw:=true
 stAt:=(λi=>bif Nat.beq i 31 then some 999 else none)
 last:=(λi=>bif Nat.beq i 4 then true else false)
 lastK:=(λi=>bif Nat.beq i 4 then 3 else 1)
 frz:=[200]
 kF:=true }
theorem Zow(aA:Int)(aW:Option Addr)(aS aX:Nat)(aO:Option Addr)(aJ aT:Nat)(p1 p2:Int)(m:Mem)(R:RT)(h:
 lV [int i64 p2,int i64 (i64.wrap (p2+(1:Int)))] λxL=>lE (Int.toNat p1*2) λyL=>lV [int i64 aA,slice aW aS aX,slice aO aJ aT] λxL_1=>fzM m xL_1 λb m'=>m.free b
 -> (∀(b' o:Nat)(u:Value),m' b' o=some u->m b' o=some u\/b'=b)->Mem.k m b=none->∀(b_1:Nat),kB Tryz.prog 47 [agg (Array.mk xL_1),int i64 p1,int i64 p2] m' λb_2 m'=>br (!b_2) (rtM m m' R (tuple
 (Array.mk [agg (Array.mk [int i64 0,slice none 0 0,slice none 0 0]),int i64 250]))) (∃(R_1:RT),True/\CX Tryz.prog 18 (Array.mk [agg (Array.mk xL_1)]) m' [] R_1/\Za3 (Shape.agg [Shape.int i64,Shape.slice,
 Shape.slice]) R_1/\∀(n:Int)(a:Option Addr)(n_1 c:Nat)(a_1:Option Addr)(n_2 c_1:Nat)(m'_1:Mem),lX (agg (Array.mk [int i64 n,slice a n_1 c,slice a_1 n_2 c_1])) λyL_1=>m'.le m'_1->R_1 yL_1
 m'_1 []->∀(b_3:Nat),∃(b_4:Nat),∃(cs:List Value),lM (Mem.off m'_1 λk=>k=b_4) λmL=>cs≠[]/\m'_1.reads b_4 0 cs/\m.free b_4/\(b≠b_4/\True)/\∀(T:TypeId)(cap:Nat),∃(f:Fx),
 atA a_1 λb_5 o=>Zae p1 n_2/\∃(v:Value),mL b_5 (o+yL+1)=some v/\∃(R_2:RT),R_2=f 12 (v::xL) mL/\CX Tryz.prog 48 (Array.mk (v::xL)) mL [Box.mk b_4 cs T cap false false] R_2/\Za3
 Shape.slice R_2/\∀(a:Option Addr)(n c:Nat)(m':Mem),lX (slice a n c) λyL_2=>mL.le m'->∀(cs:List Value),R_2 yL_2 m' [cs]->∀(M:Mem),mL.le M->m'.le M->atA a_1 λb_6 o=>lM (Mem.upd
 M b_6 (o+yL+1) [yL_2]) λmL=>Zae p1 n_2/\(∃(vs:List Value),vs.length=1/\M.reads b_6 (o+yL+1) vs)/\m.free b_6/\true=true/\b≠b_6/\(mL.free b_4->Mem.k mL b_4=none->rtM m
 (mL.add b_4 cs) R (tuple (Array.mk [yL_1,int i64 0]))))):CX Tryz.prog 13 #[.agg #[.int .i64 aA,.slice aW aS aX,.slice aO aJ aT],.int .i64 p1,.int .i64 p2] m [] R:=
 Zad (E:=ZpL) Zao mix Tryz.func13 (by kernel_rfl) (Eq.mp (by kernel_rfl) h)
end Go.Proofs.YtpjepnkiiojgfaaGreat
namespace Go.Proofs.YtpjepnkiiojgfaaGreat
open Go Go.Eng Go.Rx Go.Proofs Go.RowKit Go.Shelf
set_option maxRecDepth 100000
def zRu:Value:=.agg #[.int .u8 0,.bool false,.bool false,.int .u8 0,.int .u64 0,.int .u64 0,.int .u64 0,.int .u64 0,.int .i64 0,.int .i64 0,.slice none 0 0,.string .empty,.int .i64 0,.slice none 0 0,.string .empty,.int .i64 0]
def ZyS:Ren:=⟨fun|45=>48|n=>n,fun|0=>0|3=>3|4=>4|22=>34|23=>47|n=>n,λn=>n⟩
theorem Zxh:DelLay Tryz.prog ZyS 16 zRu:=
 {mixed:=mix,f45:=⟨Tryz.f48.name,by kernel_rfl,by kernel_rfl⟩
  t0:=by kernel_rfl,a0:=Tryz.isAgg0,z0:=Tryz.sizeOf0,v0:=Tryz.zeroValue0
  t3:=Tryz.underlying3,a3:=Tryz.isAgg3,z3:=Tryz.sizeOf3,v3:=Tryz.zeroValue3
  t4:=Tryz.underlying4,a4:=Tryz.isAgg4,z4:=Tryz.sizeOf4,v4:=Tryz.zeroValue4
  t22:=Tryz.underlying34,a22:=Tryz.isAgg34,z22:=Tryz.sizeOf34,v22:=Tryz.zeroValue34
  z23:=Tryz.sizeOf47,v23:=Tryz.zeroValue47 }
theorem Zxi(m:Nat):∀u∈(Builtin.zeroCells zRu.cells m).toList,u.oneCell'=true:=by
 have jH:∀i,i < 16->(zRu.cells[i]!).oneCell'=true:=by decide
 intro u hu
 simp only[Builtin.zeroCells,Array.toList_map,List.mem_map]at hu
 obtain⟨i,_,rfl⟩:=hu
 exact jH _ (Nat.mod_lt _ (by decide))
theorem Zxj(l:List Ru)(b c i:Nat)(T:TypeId)(cap:Nat)(m:Mem)(hi:i < l.length)(hc:l.length<=c)(hm:l.length<=9223372036854775807):
  CX Tryz.prog 48 #[.slice (some ⟨b,0,none⟩) l.length c,.int .i64 i,.int .i64 (i+1:Nat)] m [⟨b,(l.map Ru.cs).flatten,T,cap,false,false⟩] (λv m' css=>v=.slice (some ⟨b,0,none⟩) (l.length - 1) c/\css=[((l.eraseIdx i).map Ru.cs).flatten++zRu.cells.toList]):=by
 obtain⟨i0,h1,h2⟩:∃i0,Tryz.prog.info? 47=some i0/\i0.size=16:=by
  obtain⟨x,h1,h2,_⟩:=(Zao 47 _ rfl).info
  exact⟨x,h1,h2⟩
 exact Zsw Zxh i0 h1 h2 rfl (Go.Eng.Zgf Tryz.func48 (by kernel_rfl) (by kernel_rfl)) (by decide) (by kernel_rfl) Zxi Ru.len Ru.one l b c i T cap m hi hc hm
end Go.Proofs.YtpjepnkiiojgfaaGreat
namespace Go.Proofs.YtpjepnkiiojgfaaGreat
open Go Go.Eng Go.Rx Go.Proofs Go.RowKit
set_option maxRecDepth 100000
theorem Zrk(s:Sc)(i k:Int)(m:Mem)(hr:RepC m s):CX Tryz.prog 47 #[s.v,.int .i64 i,.int .i64 k] m [] (Ret (.bool (ZfU s i k))):=by
 apply ZlM
 intro b m1 aE _
 refine⟨ZfU s i k,Zag (ZbW s m1 (hr.mono aE)) λm2 aI=>?_,Zaf aE rfl⟩
 refine Zab (λh1=>Zab (λh2=>Zab (λh3=>Zab (λh4=>?_) (λh4=>⟨rfl,?_⟩)) (λh3=>⟨rfl,?_⟩)) (λh2=>⟨rfl,?_⟩)) (λh1=>⟨rfl,?_⟩)
 ·have h2':0<=i:=zA6 h2
  have h3':i < s.states.length:=zA6 h3
  obtain⟨x,hx⟩:=Zaq (l:=s.states) (k:=i.toNat) (by omega)
  obtain⟨bs,o,ha,cF⟩:=Zaj Sta.len (hr.mono (mLt aE aI)).row hx (by omega)
  refine⟨bs,o,ha,⟨h2',h3'⟩,_,cF 1 _ rfl,Zaa rfl ⟨rfl,?_⟩⟩
  simp only[ZfU,h1,h2,h3,h4,hx,Bool.true_and]
  rfl
 ·simp only[ZfU,h1,h2,h3,h4,Bool.true_and,Bool.false_and]
 ·simp only[ZfU,h1,h2,h3,Bool.true_and,Bool.false_and]
 ·simp only[ZfU,h1,h2,Bool.true_and,Bool.false_and]
 ·simp only[ZfU,h1,Bool.false_and]
def Zzv(s:Sc)(i k:Nat):Value->Mem->List (List Value)->Prop:=λv m' _=>∃s':Sc,v=.tuple #[s'.v,.int .i64 0]/\s'.er=(Zin s i k).er/\RepC m' s'
theorem Zox{s:Sc}{i k:Nat}:∀(v:Value)(m':Mem) (css:List (List Value)),Zzv s i k v m' css->Shape.fits (.tup [.agg [.int .i64,.slice,.slice],.int .i64]) v=true:=λv _ _ ⟨t,e,_⟩=>by rw[e];rfl
theorem ZpM{s:Sc}{n:Int}{a a1:Option Addr}{p c p1 c1:Nat}(h:Value.agg #[.int .i64 n,.slice a p c,.slice a1 p1 c1]=s.v):n=s.n/\a=s.va/\p=s.vars.length/\c=s.vc/\a1=s.sa/\p1=s.states.length/\c1=s.sc:=by
 simpa[Sc.v,and_assoc]using h
theorem Zt1(s:Sc)(i k:Nat)(m:Mem)(hr:RepC m s)(hl:s.light=true){x:Sta}(hx:s.states[i]?=some x)(hk:k < x.rules.length):CX Tryz.prog 13 #[s.v,.int .i64 i,.int .i64 k] m [] (Zzv s i k):=by
 have hi:=(zA0 hx).1
 have eW:s.states.length<=100000:=hr.len
 have je:x.rules.length<=100000:=(hr.all x (zA2 hx)).len
 have fZ:ZfU s i k=true:=by
  simp only[ZfU,hl,zA8,hx,Bool.true_and,zA7,decide_eq_true_eq]
  omega
 apply Zow
 intro b m1 aE jI gc vR fA b1
 have hc:=Zrk s i k m1 (hr.mono aE)
 rw[fZ]at hc
 refine Zag hc λm2 aI=>Zhy rfl ?_
 have cI:=mLt aE aI
 refine Zan (Zrg s m2 (hr.mono cI) hl) Zml ?_
 rintro n a p c a1 p1 c1 m3 aP ⟨s',hv,jl,cM,cR⟩ b3
 obtain⟨rfl,rfl,rfl,rfl,rfl,rfl,rfl⟩:=ZpM hv
 obtain⟨x',hx',j9⟩:=Zwx jl hx
 obtain⟨cE,dB,tN⟩:=ZfG j9
 have hk':k < x'.rules.length:=by omega
 have hi':=(zA0 hx').1
 rcases cR with h0|⟨bS,μ,cR⟩
 ·rw[h0]at hi';simp at hi'
 obtain⟨j8,⟨v6,nv⟩,bQ,mB⟩:=cR.all i x' hx'
 rcases nv with h0|⟨bR,iO,kM,uu,jR⟩
 ·rw[h0]at hk';simp at hk'
 have aB:(μ i).reads bR 0 (x'.rules.map Ru.cs).flatten:=by
  rcases j8.row with h|⟨b',o',ha,h⟩
  ·have:=congrArg List.length h
   rw[ZaU Ru.len]at this;simp at this;omega
  ·rw[iO]at ha;cases ha;exact h
 have kN:(x'.rules.map Ru.cs).flatten.length=x'.rules.length*16:=ZaU Ru.len _
 have iE:¬(μ i).free bR:=λhf=>by
  have:=aB 0 _ (zA3 (by omega))
  rw[hf]at this;cases this
 have og:bS≠bR:=λe=>iE (e ▸ mB)
 have gj:¬m2.free b:=λhf=>by
  have:=aI _ _ _ (jI 0 _ rfl)
  rw[hf]at this;cases this
 have ge:=mLt bQ (Zec m2 m3)
 obtain⟨bs0,o0,ky,cB⟩:=Zaj Sta.len cM.row hx' (by omega)
 rw[cR.sa]at ky
 simp only[Option.some.injEq,Addr.mk.injEq,and_true]at ky
 obtain⟨rfl,rfl⟩:=ky
 have bO:∀M:Mem,(m3.off λq=>q=bR).le M->M bS (0+i*2+1)=some (.slice x'.ra x'.rules.length x'.rc):=λM hM=>hM _ _ _ (by
  rw[Mem.off_at (Y:=λq=>q=bR) og];exact(Zec m2 m3) _ _ _ (cB 1 _ rfl))
 have mz:m.le (m3.off λq=>q=bR):=ZfT (mLt cI aP) λq e=>⟨e ▸ Zba cI kM,e ▸ Zd3 cI uu⟩
 have hw:IntKind.i64.wrap ((k:Int)+1)=((k+1:Nat):Int):=by rw[Zal (by omega) (by omega)];rfl
 refine⟨bR,(x'.rules.map Ru.cs).flatten,λe=>?_,aB.mono ge,Zba cI kM,⟨λe=>gj (e ▸ kM),trivial⟩,λT cap=>?_⟩
 ·rw[e]at kN;simp at kN;omega
 rw[hw]
 have hd:=Zxj x'.rules bR x'.rc k T cap (m3.off λq=>q=bR) hk' v6 (by omega)
 rw[<-iO]at hd
 refine⟨λ_ _ _=>_,bS,0,cR.sa,⟨by omega,by omega⟩,_,bO _ (Mem.le_refl _),_,rfl,hd,(λv _ _ h=>by rw[h.1];rfl),?_⟩
 rintro a4 n4 c4 m4 bU cs4 ⟨v7,qx⟩ M hM gS
 simp only[Value.slice.injEq]at v7
 obtain⟨rfl,rfl,rfl⟩:=v7
 simp only[List.cons.injEq,and_true]at qx
 subst qx
 refine⟨bS,0,cR.sa,⟨by omega,by omega⟩,⟨[.slice x'.ra x'.rules.length x'.rc],rfl,λj v hj=>?_⟩,Zba cI cR.free.1,rfl,λe=>gj (e ▸ cR.free.1),λv8 _=>⟨_,mLt (Mem.le_upd (mLt mz hM) (Zba cI cR.free.1) _ _) (Mem.le_add v8 _),Mem.le_refl _,⟨s'.n,s'.va,s'.vc,s'.vars,s'.sa,s'.sc,s'.states.set i (ZfF x' k)⟩,?_,?_,ZuB cM cR hx' iO hk' jR hM v8⟩⟩
 ·cases j with
  | zero=>simp at hj;subst hj;exact bO M hM
  | succ j=>simp at hj
 ·simp only[Sc.v,List.length_set]
 ·have h1:=ZnC jl
  have h2:Zin s i k=⟨s.n,s.va,s.vc,s.vars,s.sa,s.sc,s.states.set i (ZfF x k)⟩:=by unfold Zin;rw[hx]
  rw[h2]
  exact Zma h1.1 h1.2 (by rw[List.map_set,List.map_set,Ze3 jl,Zuz j9])
end Go.Proofs.YtpjepnkiiojgfaaGreat
namespace Go.Proofs.YtpjepnkiiojgfaaGreat
open Go Go.Eng Go.Proofs Go.RowKit
open Go.Value (int slice agg bool string tuple func)
open Go.IntKind (u8 u64 i64)
set_option maxRecDepth 100000
def ZjO:Env:=EB
theorem ZeI(p0:Int)(m:Mem)(R:RT)(h:
 ∀(b b:Nat),lE (u8.wrap (Int.tdiv p0 (64:Int))) λyL=>lE (1+Int.toNat yL*1) λyL_1=>lV (ZaF [int u8 2,int u64 0,int u64 0,int u64 0,int u64 0,int i64 0,int i64 0,slice none 0 0] yL_1
 [int u64 (u64.wrap ((1:Int)*(2:Int) ^ min (Int.toNat (Int.tmod p0 (64:Int))) 64))]) λxL=>(64:Int)≠(0:Int)/\(64:Int)≠(0:Int)/\(0:Int)<=Int.tmod p0 (64:Int)/\Zae yL 4/\chk
 (Nat.ble yL_1 (nat_lit 7)) (chk (Nat.beq (xL.length) 8&&ZdK xL) (rtM m m R (agg (Array.mk xL))))):CX Tryz.prog 83 #[.int .u8 p0] m [] R:=
 Zad (E:=ZjO) Zao mix Tryz.func83 (by kernel_rfl) (Eq.mp (by kernel_rfl) h)
def Zg1:Env:=EB
theorem Zf7  (m:Mem)(R:RT)(h:
 ∀(b b:Nat),∃(R_1:RT),True/\CX Tryz.prog 83 (Array.mk [int u8 120]) m [] R_1/\Za3 (shT) R_1/\∀(n am an ao ap aq ar:Int)(a:Option Addr)(au c:Nat)(m':Mem),lV [int u8 n,int u64 am,int u64 an,int
 u64 ao,int u64 ap,int i64 aq,int i64 ar,slice a au c] λxL=>m.le m'->R_1 (agg (Array.mk xL)) m' []->∀(b:Nat),lM (m'.add b xL) λmL=>lV [int u8 6,int u64 0,int u64 0,int u64 0,int u64 0,int
 i64 0,int i64 0,slice (some (Addr.mk b 0 none)) 1 1] λxL=>m'.free b->∀(b:Nat),lX (slice (some (Addr.mk b 0 none)) 1 1) λyL=>mL.free b->∃(R_2:RT),True/\CX Tryz.prog 83 (Array.mk [int u8
 121]) (mL.add b xL) [] R_2/\Za3 (shT) R_2/\∀(n av aw ax ay az a0:Int)(a:Option Addr)(a1 c:Nat)(m':Mem),lV [int u8 n,int u64 av,int u64 aw,int u64 ax,int u64 ay,int i64 az,int i64 a0,slice a a1
 c] λah=>lV (int u8 5::int u64 0::int u64 0::int u64 0::int u64 0::int i64 1::int i64 (-1:Int)::yL::ah) λa2=>Mem.le (mL.add b xL) m'->R_2 (agg (Array.mk ah)) m' []->∀(b:Nat),lX
 (slice (some (Addr.mk b 0 none)) 2 2) λyL=>lM (m'.add b a2) λmL=>m'.free b->∀(b b:Nat),lM (mL.add b [string (ByteArray.mk (Array.mk [110])),bool true,string bE0,Value.float .f64 0]) λai=>mL.free b->∀(aa:Nat),lX (slice (some (Addr.mk aa 0 none)) 2 2) λa3=>lM (ai.add aa [int u8 9,Value.float .f64 0,string (ByteArray.mk (Array.mk
 [110])),int i64 0,slice none 0 0,int u8 8,Value.float .f64 4607182418800017408,string bE0,int i64 0,slice none 0 0]) λmL=>ai.free aa->∀(ab:Nat),lM
 (mL.add ab [int u8 9,Value.float .f64 0,string (ByteArray.mk (Array.mk [110])),int i64 0,slice none 0 0,int u8 8,Value.float .f64 4611686018427387904,string bE0,int i64 0,slice none 0 0]) λaj=>lV [int u8 3,string bE0,int i64 1,int u8 0,Value.float .f64 0,string bE0,int i64 0,slice none 0 0,int u8 4,
 string bE0,int i64 0,int u8 4,Value.float .f64 0,string bE0,int i64 0,slice (some (Addr.mk ab 0 none)) 2 2] λxL=>mL.free ab->∀(ac:Nat),lM
 (aj.add ac xL) λmL=>lV [int u8 3,string (ByteArray.mk (Array.mk [110])),slice none 0 0,int u8 2,Value.float .f64 0,string bE0,int i64 0,a3,int u8 1,string
 bE0,slice (some (Addr.mk ac 0 none)) 2 2,int u8 0,Value.float .f64 0,string bE0,int i64 0,slice none 0 0] λxL=>aj.free ac->∀(ad:Nat),lM
 (mL.add ad xL) λak=>lV [int u8 1,bool false,bool false,int u8 3,int u64 0,int u64 0,int u64 0,int u64 0,int i64 0,int i64 0,yL,string bE0,int i64 0,slice (some (Addr.mk ad
 0 none)) 2 2,string (ByteArray.mk (Array.mk [98])),int i64 0,int u8 4,bool false,bool false,int u8 0,int u64 0,int u64 0,int u64 0,int u64 0,int i64 0,int i64 0,slice none 0 0,string
 bE0,int i64 5,slice none 0 0,string bE0,int i64 1] λxL=>mL.free ad->∀(ae:Nat),lM (ak.add ae xL) λmL=>ak.free ae->∀(af:Nat),lM
 (mL.add af [int u8 3,bool false,bool false,int u8 0,int u64 0,int u64 0,int u64 0,int u64 0,int i64 0,int i64 0,slice none 0 0,string bE0,int i64 0,slice none 0 0,string
 bE0,int i64 0]) λal=>mL.free af->∀(ag:Nat),al.free ag->rtM m (al.add ag [string (ByteArray.mk (Array.mk [97])),slice (some (Addr.mk ae 0 none)) 2 2,string
 (ByteArray.mk (Array.mk [98])),slice (some (Addr.mk af 0 none)) 1 1]) R (agg (Array.mk [int i64 9,slice (some (Addr.mk b 0 none)) 1 1,slice (some (Addr.mk ag 0 none)) 2 2]))):CX Tryz.prog 41 #[] m [] R:=
 Zad (E:=Zg1) Zao mix Tryz.func41 (by kernel_rfl) (Eq.mp (by kernel_rfl) h)
def ZjP:Env:={ EB with
 joins:=(λi=>bif Nat.beq i 6 then some [(35,.bool)]else none) }
theorem Zh0  (m:Mem)(R:RT)(h:
 ∃(R_1:RT),True/\CX Tryz.prog 41 (Array.mk []) m [] R_1/\Za3 (Shape.agg [Shape.int i64,Shape.slice,Shape.slice]) R_1/\∀(n:Int)(a:Option Addr)(a6 c:Nat)(ah:Option Addr)(ai a7:Nat)(m':Mem),lV
 [int i64 n,slice a a6 c,slice ah ai a7] λxL=>lX (agg (Array.mk xL)) λyL=>m.le m'->R_1 yL m' []->∀(b:Nat),lE [some (Box.mk b xL 32 3 false true)] λxL=>atA ah λb o=>Zae (0:Int) ai/\∃
 (v:Value),m' b (o+0+1)=some v/\chk (ZbF v) (atA (slA v) λb o=>Zae (0:Int) (slN v)/\∃v aj ak al am an ao ap aq ar au av aw ax ay az:Value,lV [v,aj,ak,al,am,an,ao,ap,aq,ar,au,av,aw,ax,ay,az] λab=>
 lV [agg (Array.mk ab)] λac=>m'.reads b (o+0) ab/\∀(b:Nat),lE (some (Box.mk b ab 47 16 false true)::xL) λxL=>chk (v.oneCell'&&(aj.oneCell'&&(ak.oneCell'&&(al.oneCell'
 && (am.oneCell'&&(an.oneCell'&&(ao.oneCell'&&(ap.oneCell'&&(aq.oneCell'&&(ar.oneCell'&&(au.oneCell'&&(av.oneCell'&&(aw.oneCell'&&(ax.oneCell'
 && (ay.oneCell'&&(az.oneCell'&&true)))))))))))))))) (kS Tryz.prog 11 [yL] m' λa n c m'=>∃(R_2:RT),True/\CX Tryz.prog 13 (Array.mk [yL,int i64 0,int i64 0]) m' [] R_2/\Za3 (Shape.tup
 [Shape.agg [Shape.int i64,Shape.slice,Shape.slice],Shape.int i64]) R_2/\∀(a8:Int)(a9:Option Addr)(ba c:Nat)(bb:Option Addr)(bc bd:Nat)(a0:Int)(ad:Mem),lV [int i64 a8,slice a9 ba c,slice bb bc
 bd] λae=>m'.le ad->R_2 (tuple (Array.mk [agg (Array.mk ae),int i64 a0])) ad []->∀(b:Nat),lE (some (Box.mk b ae 32 3 false true)::xL) λxL=>kS Tryz.prog 32 [yL] ad λa1 af c m'=>∃(b:Bool),br
 (!a0 == (0:Int)) (Zac xL/\[bool true]=[bool b]) (br (!(↑n:Int) == (11:Int)) (Zac xL/\[bool true]=[bool b]) (Zac xL/\[bool !(↑af:Int) == (2:Int)]=[bool b]))/\br b (rtM m m' R (bool false)) (∃
 (R_3:RT),True/\CX Tryz.prog 21 (Array.mk [yL]) m' [] R_3/\Za3 (Shape.agg [Shape.int i64,Shape.int i64,Shape.int i64,Shape.int i64,Shape.int i64,Shape.int i64]) R_3/\∀(be bf bg bh bi bj:Int)(aa:Mem),lX
 (agg (Array.mk [int i64 be,int i64 bf,int i64 bg,int i64 bh,int i64 bi,int i64 bj])) λyL=>m'.le aa->R_3 yL aa []->∃(b:Bool),EqIs Tryz.prog 75 yL (agg (Array.mk [int i64 2,int i64 3,int i64 5,int
 i64 2,int i64 2,int i64 2])) b/\br b (atA a1 λb o=>Zae (0:Int) af/\∃(v:Value),aa b (o+0)=some v/\∀(b:Nat),aa.free b->kB Tryz.prog 38 [v,slice (some (Addr.mk b 0 none)) 1 1] (aa.add  b [int i64 1]) λb m'=>br b (atA a1 λb o=>Zae (1:Int) af/\∃(v:Value),m' b (o+1)=some v/\chk (ZbF v) (br ((↑(slN v):Int) == (0:Int)) (kS Tryz.prog 27 ac m' λbk bl c m'=>∀(b:Nat),
 m'.free b->kB Tryz.prog 42 [slice bk bl c,slice (some (Addr.mk b 0 none)) 1 1] (m'.add b [string (ByteArray.mk (Array.mk [110]))]) λb m'=>br b (kS Tryz.prog 28 ac m' λbm bn c m'=>∀(b:
 Nat),m'.free b->kB Tryz.prog 42 [slice bm bn c,slice (some (Addr.mk b 0 none)) 1 1] (m'.add b [string (ByteArray.mk (Array.mk [110]))]) λb m'=>br b (kI Tryz.prog 30 ac m' λbo m'=>br (bo ==
 (1:Int)) (atA a λb o=>Zae (5:Int) n/\∃v a2 a3 a4 a5:Value,m'.reads b (o+25) [v,a2,a3,a4,a5]/\∃(b:Bool),EqIs Tryz.prog 27 (agg
 (Array.mk [v,a2,a3,a4,a5])) (agg (Array.mk [int i64 (-1:Int),int i64 0,int i64 0,int i64 1,int i64 (-1:Int)])) b/\br b (∃(R_4:RT),True/\CX Tryz.prog 21 (Array.mk [agg (Array.mk ae)]) m' [] R_4/\Za3
 (Shape.agg [Shape.int i64,Shape.int i64,Shape.int i64,Shape.int i64,Shape.int i64,Shape.int i64]) R_4/\∀(n bp bq bs bt bu:Int)(ag:Mem),lX (agg (Array.mk [int i64 n,int i64 bp,int i64 bq,int i64 bs,int
 i64 bt,int i64 bu])) λyL=>m'.le ag->R_4 yL ag []->∃(b:Bool),EqIs Tryz.prog 75 yL (agg (Array.mk [int i64 2,int i64 2,int i64 0,int i64 0,int i64 0,int i64 0])) b/\rtM m ag R (bool b)) (rtM m m' R
 (bool false))) (rtM m m' R (bool false))) (rtM m m' R (bool false))) (rtM m m' R (bool false))) (rtM m m' R (bool false)))) (rtM m m' R (bool false))) (rtM m aa R (bool false)))))):CX Tryz.prog 9 #[] m [] R:=
 Zad (E:=ZjP) Zao mix Tryz.func9 (by kernel_rfl) (Eq.mp (by kernel_rfl) h)
end Go.Proofs.YtpjepnkiiojgfaaGreat
namespace Go.Proofs.YtpjepnkiiojgfaaGreat
open Go Go.Eng Go.Rx Go.Proofs Go.RowKit
set_option maxRecDepth 100000
theorem Zxk(a b c d e f a' b' c' d' e' f':Int):EqIs Tryz.prog 75 (.agg (msV a b c d e f).toArray) (.agg (msV a' b' c' d' e' f').toArray) (decide ([a,b,c,d,e,f]=[a',b',c',d',e',f'])):=by
 refine⟨λw=>?_,λop ox oy w=>Zer (by kernel_rfl) op ox oy _ _ w⟩
 have u3:=Tryz.underlying3
 have a3:=Tryz.isAgg3
 have z3:=Tryz.sizeOf3
 unfold msV
 rw[Op.equal,Op.maxDepth,show(10000:Nat)=9999+1 from rfl]
 rw[run_equalIn_agg _ _ _ _ _ (by kernel_rfl) (by kernel_rfl)]
 have hf:(Tryz.prog.fieldsOf 75).toList=[⟨ "States",3,0,false, "", "",0⟩,⟨ "Rules",3,1,false, "", "",8⟩,⟨ "Regex",3,2,false, "", "",16⟩,⟨ "Parts",3,3,false, "", "",24⟩,⟨ "Operators",3,4,false, "", "",32⟩,⟨ "Vars",3,5,false, "", "",40⟩]:=by kernel_rfl
 rw[hf]
 go_simp
 by_cases h1:a=a' <;> by_cases h2:b=b' <;> by_cases h3:c=c' <;> by_cases h4:d=d' <;> by_cases h5:e=e' <;> by_cases h6:f=f' <;> simp[h1,h2,h3,h4,h5,h6]
theorem Zz8(a b c d e a' b' c' d' e':Int):EqIs Tryz.prog 27 (.agg #[.int .i64 a,.int .i64 b,.int .i64 c,.int .i64 d,.int .i64 e]) (.agg #[.int .i64 a',.int .i64 b',.int .i64 c',.int .i64 d',.int .i64 e']) (a == a'&&b == b'&&c == c'&&d == d'&&e == e'):=by
 refine⟨λw=>?_,λop ox oy w=>Zer (by kernel_rfl) op ox oy _ _ w⟩
 have u3:=Tryz.underlying3
 have a3:=Tryz.isAgg3
 have z3:=Tryz.sizeOf3
 rw[Op.equal,Op.maxDepth,show(10000:Nat)=9999+1 from rfl]
 rw[run_equalIn_agg _ _ _ _ _ (by kernel_rfl) (by kernel_rfl)]
 have hf:(Tryz.prog.fieldsOf 27).toList=[⟨ "Var",3,0,false, "", "",0⟩,⟨ "State",3,1,false, "", "",8⟩,⟨ "Rule",3,2,false, "", "",16⟩,⟨ "Action",3,3,false, "", "",24⟩,⟨ "Part",3,4,false, "", "",32⟩]:=by kernel_rfl
 rw[hf]
 go_simp
 by_cases h1:a=a' <;> by_cases h2:b=b' <;> by_cases h3:c=c' <;> by_cases h4:d=d' <;> by_cases h5:e=e' <;> simp[h1,h2,h3,h4,h5]
theorem ZyT(p q:Pl):EqIs Tryz.prog 27 (.agg p.cs.toArray) (.agg q.cs.toArray) (decide (p=q)):=by
 have h:=Zz8 p.v p.s p.r p.a p.p q.v q.s q.r q.a q.p
 have e:(p.v == q.v&&p.s == q.s&&p.r == q.r&&p.a == q.a&&p.p == q.p)=decide (p=q):=by
  by_cases lz:p=q
  ·subst lz;simp
  ·rw[decide_eq_false lz,Bool.eq_false_iff]
   intro h
   simp only[zA7,beq_iff_eq]at h
   obtain⟨⟨⟨⟨h1,h2⟩,h3⟩,h4⟩,h5⟩:=h
   apply lz
   cases p;cases q
   simp only at h1 h2 h3 h4 h5
   subst h1 h2 h3 h4 h5;rfl
 rw[e]at h;exact h
theorem ZsV(l r:List Int)(a a':Option Addr)(c c':Nat)(m:Mem)(hl:l.length<=1000000000000000)(h1:rowRd m a (Zd5 l))(h2:rowRd m a' (Zd5 r)):
  CX Tryz.prog 38 #[.slice a l.length c,.slice a' r.length c'] m [] (Ret (.bool (decide (l=r)))):=by
 apply ZcQ
 refine Zab (λh=>Zaf (Mem.le_refl _) ?_) (λh=>?_)
 ·have cN:¬(l.length:Int)=r.length:=by simpa using h
  show Value.bool false=Value.bool _
  rw[decide_eq_false (λe=>cN (by rw[e]))]
 have aH:l.length=r.length:=by
  have:(l.length:Int)=r.length:=by simpa using h
  omega
 refine⟨λxs _ _ m' q=>∃i:Nat,i<=l.length/\xs=[.int .i64 i]/\l.take i=r.take i/\q=l.length - i,⟨l.length,0,by omega,rfl,rfl,rfl⟩,?_⟩
 rintro n m1 q aE ⟨i,hi,hx,heq,rfl⟩
 obtain rfl:n=i:=by simpa using hx
 refine ZaA (λaC=>?_) (λbJ=>Zaf aE ?_)
 ·obtain⟨x,hx⟩:=Zdz (show i < l.length by omega)
  obtain⟨y,hy⟩:=Zdz (show i < r.length by omega)
  obtain⟨b1,o1,fE,dB⟩:=ZyP (h1.mono aE) (show(Zd5 l)[i]?=some (.int .i64 x) by unfold Zd5;rw[List.getElem?_map,hx];rfl)
  obtain⟨b2,o2,fy,gK⟩:=ZyP (h2.mono aE) (show(Zd5 r)[i]?=some (.int .i64 y) by unfold Zd5;rw[List.getElem?_map,hy];rfl)
  refine⟨b1,o1,fE,⟨by omega,aC⟩,_,dB,b2,o2,fy,⟨by omega,by omega⟩,_,gK,Zaa rfl (Zab (λh=>Zaf aE ?_) (λh=>?_))⟩
  ·have cN:¬x=y:=by
    intro e
    subst e
    have h:(!(x == x))=true:=h
    simp at h
   show Value.bool false=Value.bool _
   rw[decide_eq_false (λe=>cN (by subst e;rw[hx]at hy;exact Option.some.inj hy))]
  ·have e:x=y:=by
    have h:(!(x == y))=false:=h
    simpa using h
   subst e
   exact⟨l.length - (i+1),by omega,i+1,by omega,by rw[Zal (by omega) (by omega)];rfl,by rw[List.take_add_one,List.take_add_one,hx,hy,heq],rfl⟩
 ·have hi:i=l.length:=by omega
  subst hi
  show Value.bool true=Value.bool _
  rw[List.take_length,aH,List.take_length]at heq
  rw[decide_eq_true heq]
theorem ZkH(l r:List ByteArray)(a a':Option Addr)(c c':Nat)(m:Mem)(hl:l.length<=1000000000000000)(h1:rowRd m a (Zcb l))(h2:rowRd m a' (Zcb r)):
  CX Tryz.prog 42 #[.slice a l.length c,.slice a' r.length c'] m [] (Ret (.bool (decide (l=r)))):=by
 apply ZbX
 refine Zab (λh=>Zaf (Mem.le_refl _) ?_) (λh=>?_)
 ·have cN:¬(l.length:Int)=r.length:=by simpa using h
  show Value.bool false=Value.bool _
  rw[decide_eq_false (λe=>cN (by rw[e]))]
 have aH:l.length=r.length:=by
  have:(l.length:Int)=r.length:=by simpa using h
  omega
 refine⟨λxs _ _ m' q=>∃i:Nat,i<=l.length/\xs=[.int .i64 i]/\l.take i=r.take i/\q=l.length - i,⟨l.length,0,by omega,rfl,rfl,rfl⟩,?_⟩
 rintro n m1 q aE ⟨i,hi,hx,heq,rfl⟩
 obtain rfl:n=i:=by simpa using hx
 refine ZaA (λaC=>?_) (λbJ=>Zaf aE ?_)
 ·obtain⟨x,hx⟩:=Zdz (show i < l.length by omega)
  obtain⟨y,hy⟩:=Zdz (show i < r.length by omega)
  obtain⟨b1,o1,fE,dB⟩:=ZyP (h1.mono aE) (show(Zcb l)[i]?=some (.string x) by unfold Zcb;rw[List.getElem?_map,hx];rfl)
  obtain⟨b2,o2,fy,gK⟩:=ZyP (h2.mono aE) (show(Zcb r)[i]?=some (.string y) by unfold Zcb;rw[List.getElem?_map,hy];rfl)
  refine⟨b1,o1,fE,⟨by omega,aC⟩,_,dB,b2,o2,fy,⟨by omega,by omega⟩,_,gK,Zaa rfl (Zab (λh=>Zaf aE ?_) (λh=>?_))⟩
  ·have cN:¬x=y:=by
    intro e
    subst e
    have h:(!(x.toList == x.toList))=true:=h
    simp at h
   show Value.bool false=Value.bool _
   rw[decide_eq_false (λe=>cN (by subst e;rw[hx]at hy;exact Option.some.inj hy))]
  ·have e:x=y:=by
    have h:(!(x.toList == y.toList))=false:=h
    have h:x.toList=y.toList:=by simpa using h
    rw[baL,baL]at h
    have:x.data=y.data:=Array.toList_inj.1 h
    cases x;cases y;exact congrArg _ this
   subst e
   exact⟨l.length - (i+1),by omega,i+1,by omega,by rw[Zal (by omega) (by omega)];rfl,by rw[List.take_add_one,List.take_add_one,hx,hy,heq],rfl⟩
 ·have hi:i=l.length:=by omega
  subst hi
  show Value.bool true=Value.bool _
  rw[List.take_length,aH,List.take_length]at heq
  rw[decide_eq_true heq]
theorem ZsW(m:Mem):CX Tryz.prog 83 #[.int .u8 120] m [] (Ret aeX.v):=by
 apply ZeI
 exact λb b'=>⟨by decide,by decide,by decide,⟨by decide,by decide⟩,Zaa rfl (Zaa rfl (Zaf (Mem.le_refl _) rfl))⟩
theorem ZsX(m:Mem):CX Tryz.prog 83 #[.int .u8 121] m [] (Ret aeY.v):=by
 apply ZeI
 exact λb b'=>⟨by decide,by decide,by decide,⟨by decide,by decide⟩,Zaa rfl (Zaa rfl (Zaf (Mem.le_refl _) rfl))⟩
theorem Zrl{t:T}:∀(v:Value)(m':Mem) (css:List (List Value)),Ret t.v v m' css->Shape.fits (.agg [.int .u8,.int .u64,.int .u64,.int .u64,.int .u64,.int .i64,.int .i64,.slice]) v=true:=λv _ _ h=>by rw[show v=_ from h];rfl
def ExR:Value->Mem->List (List Value)->Prop:=λv m' _=>∃g r c w l s p a r1 r2 S:Option Addr,v=(aeS g r c w l s p a r1 r2 S).v/\RepC m' (aeS g r c w l s p a r1 r2 S)
theorem Zxl:∀(v:Value)(m':Mem) (css:List (List Value)),ExR v m' css->Shape.fits (.agg [.int .i64,.slice,.slice]) v=true:=λv _ _ ⟨_,_,_,_,_,_,_,_,_,_,_,h,_⟩=>by rw[h];rfl
theorem ZAJ{m:Mem}{cs:List Value}{f:Nat->Value}{K:Nat->Value->Mem->Prop}(k:∀b M,(m.free b->m.le M)->rowRd M (some ⟨b,0,none⟩) cs->K b (f b) M):∀b:Nat,lX (f b) (λy=>lM (m.add b cs) (λM=>K b y M)):=λb=>k b _ (λhf=>Mem.le_add hf _) Zbh
theorem ZyU{m:Mem}{cs:List Value}{K:Nat->Mem->Prop}(k:∀b M,(m.free b->m.le M)->rowRd M (some ⟨b,0,none⟩) cs->K b M):∀b:Nat,lM (m.add b cs) (λM=>K b M):=λb=>k b _ (λhf=>Mem.le_add hf _) Zbh
theorem Zxm{M:Mem}{k:Int}{b x:Nat}(hk:0<=k/\k < 256)(h:rowRd M (some ⟨b,0,none⟩) (aeN.cs++(aeC x).cs)):RepE M (aeO k (some ⟨b,0,none⟩) x):=by
 rcases h with h|⟨b',o',ha,h⟩
 ·cases h
 cases ha
 unfold aeO
 simp only[RepE,RepEAt]
 refine⟨by show(2:Nat)<=1000000000000000;decide,.inr ⟨b,0,rfl,λj v hj=>h j v ?_,?_,λj v hj=>?_,?_,trivial⟩,⟨hk,by decide,by omega⟩⟩
 ·rw[zA5 (zA0 hj).1];exact hj
 ·simp only[aeN,RepE];exact⟨by decide,.inl trivial,⟨by decide,by decide,by decide⟩⟩
 ·rw[Nat.zero_add,Nat.add_comm,<-Nat.zero_add (j+5)]
  exact h (j+5) v (by rw[zA4 (by show 5<=j+5;omega)];exact hj)
 ·simp only[aeC,RepE];exact⟨by decide,.inl trivial,⟨by decide,by decide,by decide⟩⟩
theorem Zxn(M:Mem):RepE M aeE:=by simp only[aeE,RepE];exact⟨by decide,.inl trivial,⟨by decide,by decide,by decide⟩⟩
theorem Zxo(M:Mem):Rep M ZAl:=Zla (by decide) (.inl rfl) (by constructor <;> decide)
theorem ZyV(M:Mem):Rep M aeX:=Zla (by decide) (.inl rfl) (by constructor <;> decide)
theorem ZyW(M:Mem):Rep M aeY:=Zla (by decide) (.inl rfl) (by constructor <;> decide)
theorem Zmo{M:Mem}{b:Nat}{cs:List Value}(h:rowRd M (some ⟨b,0,none⟩) cs):M.reads b 0 cs:=by
 rcases h with h|⟨b',o',ha,h⟩
 ·subst h;exact λj v hj=>by simp at hj
 ·cases ha;exact h
theorem ZyX{M:Mem}{g:Nat}(h:rowRd M (some ⟨g,0,none⟩) aeX.cs):Rep M (aeG (some ⟨g,0,none⟩)):=by
 refine Zla (by show(1:Nat)<=1000000000000000;decide) (.inr ⟨g,0,rfl,?_⟩) (show OkN 6 0 0 0 0 0 0 by constructor <;> decide)
 show RepAt M g 0 [aeX]
 simp only[RepAt]
 exact⟨Zmo h,ZyV M,trivial⟩
theorem ZyY{M:Mem}{g:Option Addr}{r:Nat}(hg:Rep M (aeG g))(h:rowRd M (some ⟨r,0,none⟩) (aeG g).cs):Rep M (aeR g (some ⟨r,0,none⟩)):=by
 refine Zla (by show(1:Nat)<=1000000000000000;decide) (.inr ⟨r,0,rfl,?_⟩) (show OkN 5 0 0 0 0 1 (-1) by constructor <;> decide)
 show RepAt M r 0 [aeG g]
 simp only[RepAt]
 exact⟨Zmo h,hg,trivial⟩
theorem ZyZ{M:Mem}{g r:Option Addr}{c:Nat}(hr:Rep M (aeR g r))(h:rowRd M (some ⟨c,0,none⟩) ((aeR g r).cs++aeY.cs)):Rep M (aeT g r (some ⟨c,0,none⟩)):=by
 have h:=Zmo h
 refine Zla (by show(2:Nat)<=1000000000000000;decide) (.inr ⟨c,0,rfl,?_⟩) (show OkN 3 0 0 0 0 0 0 by constructor <;> decide)
 show RepAt M c 0 [aeR g r,aeY]
 simp only[RepAt]
 refine⟨λj v hj=>h j v ?_,hr,λj v hj=>?_,ZyW M,trivial⟩
 ·rw[zA5 (zA0 hj).1];exact hj
 ·rw[Nat.zero_add,Nat.add_comm,<-Nat.zero_add (j+8)]
  exact h (j+8) v (by rw[zA4 (by show 8<=j+8;omega)];exact hj)
theorem Zxp:I64 5/\I64 1/\I64 0:=by unfold I64;omega
theorem ZpN(m:Mem):CX Tryz.prog 41 #[] m [] ExR:=by
 apply Zf7
 intro b b'
 refine⟨_,trivial,ZsW m,Zrl,?_⟩
 rintro n n1 n2 n3 n4 n5 n6 a n7 c m1 aE hv
 have hv:Value.agg _=Value.agg _:=hv
 simp only[aeX,T.k,T.s0,T.s1,T.s2,T.s3,T.mn,T.mx,T.a,T.subs,T.c,List.length_nil,Value.agg.injEq,Array.mk.injEq,List.cons.injEq,Value.int.injEq,Value.slice.injEq,true_and,and_true]at hv
 obtain⟨rfl,rfl,rfl,rfl,rfl,rfl,rfl,rfl,rfl,rfl⟩:=hv
 refine ZyU λbg M1 l1 r1=>?_
 intro f1
 have l1:=l1 f1
 intro br f2
 have r2:=Zbh (m:=M1) (b:=br) (cs:=(aeG (some ⟨bg,0,none⟩)).cs)
 have l2:=Mem.le_add f2 (aeG (some ⟨bg,0,none⟩)).cs
 obtain⟨M2,fD⟩:∃M,M=M1.add br (aeG (some ⟨bg,0,none⟩)).cs:=⟨_,rfl⟩
 rw[<-fD]at r2 l2
 refine⟨_,trivial,ZsX _,Zrl,?_⟩
 rintro n n1 n2 n3 n4 n5 n6 a n7 c m3 aP hv
 have hv:Value.agg _=Value.agg _:=hv
 simp only[aeY,T.k,T.s0,T.s1,T.s2,T.s3,T.mn,T.mx,T.a,T.subs,T.c,List.length_nil,Value.agg.injEq,Array.mk.injEq,List.cons.injEq,Value.int.injEq,Value.slice.injEq,true_and,and_true]at hv
 obtain⟨rfl,rfl,rfl,rfl,rfl,rfl,rfl,rfl,rfl,rfl⟩:=hv
 have aP:M2.le m3:=by rw[fD];exact aP
 refine ZAJ λbc M4 l4 r4=>?_
 intro f4 b2
 have l4:=l4 f4
 refine ZyU λbv M5 l5 r5=>?_
 intro f5
 have l5:=l5 f5
 refine ZAJ λbl M6 l6 r6=>?_
 intro f6
 have l6:=l6 f6
 refine ZyU λbs M7 l7 r7=>?_
 intro f7
 have l7:=l7 f7
 refine ZyU λbp M8 l8 r8=>?_
 intro f8
 have l8:=l8 f8
 refine ZyU λba M9 l9 r9=>?_
 intro f9
 have l9:=l9 f9
 refine ZyU λbx M10 l10 r10=>?_
 intro f10
 have l10:=l10 f10
 refine ZyU λby' M11 l11 r11=>?_
 intro f11 bS f12
 have l11:=l11 f11
 have r12:=Zbh (m:=M11) (b:=bS) (cs:=([(⟨⟨#[97]⟩,some ⟨bx,0,none⟩,2,[ZqL (some ⟨bg,0,none⟩) (some ⟨br,0,none⟩) (some ⟨bc,0,none⟩) (some ⟨bl,0,none⟩) (some ⟨bs,0,none⟩) (some ⟨bp,0,none⟩) (some ⟨ba,0,none⟩),ZvI]⟩:Sta),⟨⟨#[98]⟩,some ⟨by',0,none⟩,1,[ZwF]⟩].map Sta.cs).flatten)
 have l12:=Mem.le_add f12 ([(⟨⟨#[97]⟩,some ⟨bx,0,none⟩,2,[ZqL (some ⟨bg,0,none⟩) (some ⟨br,0,none⟩) (some ⟨bc,0,none⟩) (some ⟨bl,0,none⟩) (some ⟨bs,0,none⟩) (some ⟨bp,0,none⟩) (some ⟨ba,0,none⟩),ZvI]⟩:Sta),⟨⟨#[98]⟩,some ⟨by',0,none⟩,1,[ZwF]⟩].map Sta.cs).flatten
 obtain⟨M12,kO⟩:∃M,M=M11.add bS ([(⟨⟨#[97]⟩,some ⟨bx,0,none⟩,2,[ZqL (some ⟨bg,0,none⟩) (some ⟨br,0,none⟩) (some ⟨bc,0,none⟩) (some ⟨bl,0,none⟩) (some ⟨bs,0,none⟩) (some ⟨bp,0,none⟩) (some ⟨ba,0,none⟩),ZvI]⟩:Sta),⟨⟨#[98]⟩,some ⟨by',0,none⟩,1,[ZwF]⟩].map Sta.cs).flatten:=⟨_,rfl⟩
 rw[<-kO]at r12 l12
 suffices hS:rtM m M12 ExR (aeS (some ⟨bg,0,none⟩) (some ⟨br,0,none⟩) (some ⟨bc,0,none⟩) (some ⟨bv,0,none⟩) (some ⟨bl,0,none⟩) (some ⟨bs,0,none⟩) (some ⟨bp,0,none⟩) (some ⟨ba,0,none⟩) (some ⟨bx,0,none⟩) (some ⟨by',0,none⟩) (some ⟨bS,0,none⟩)).v by
  rw[kO]at hS;exact hS
 have k11:=l12
 have k10:=mLt l11 k11
 have k9:=mLt l10 k10
 have k8:=mLt l9 k9
 have k7:=mLt l8 k8
 have k6:=mLt l7 k7
 have k5:=mLt l6 k6
 have k4:=mLt l5 k5
 have k3:=mLt l4 k4
 have k2:=mLt aP k3
 have k1:=mLt l2 k2
 have k0:=mLt aE (mLt l1 k1)
 have hG:=ZyX (r1.mono k1)
 have hR:=ZyY hG (r2.mono k2)
 have hT:=ZyZ hR (r4.mono k4)
 refine ZaM k0 ⟨some ⟨bg,0,none⟩,some ⟨br,0,none⟩,some ⟨bc,0,none⟩,some ⟨bv,0,none⟩,some ⟨bl,0,none⟩,some ⟨bs,0,none⟩,some ⟨bp,0,none⟩,some ⟨ba,0,none⟩,some ⟨bx,0,none⟩,some ⟨by',0,none⟩,some ⟨bS,0,none⟩,rfl,?_⟩
 have yi:RepA M12 (ZAj (some ⟨bl,0,none⟩)):=⟨by show(0:Int)<=3/\(3:Int) < 256;decide,by show(ByteArray.mk #[110]).size<=_;decide,by show 0<=few;decide,.inl rfl,(λp hp=>by cases hp),Zxm (by decide) (r6.mono k6)⟩
 have yj:RepA M12 (ZAk (some ⟨bs,0,none⟩) (some ⟨bp,0,none⟩)):=by
  refine⟨by show(0:Int)<=1/\(1:Int) < 256;decide,by show(ByteArray.mk #[]).size<=_;decide,by show 2<=few;decide,r8.mono k8,λp hp=>?_,Zxn _⟩
  have hp:p∈[ZAH,ZAI (some ⟨bs,0,none⟩)]:=hp
  simp only[List.mem_cons,List.not_mem_nil,or_false]at hp
  rcases hp with rfl|rfl
  ·exact⟨by decide,by decide,by show I64 1;unfold I64;omega,Zxn _⟩
  ·exact⟨by show(0:Int)<=4/\(4:Int) < 256;decide,by show(ByteArray.mk #[]).size<=_;decide,by show I64 0;unfold I64;omega,Zxm (by decide) (r7.mono k7)⟩
 refine⟨by show I64 9;unfold I64;omega,by show 1<=few;decide,r5.mono k5,?_,by show 2<=few;decide,r12,?_,Nat.le_refl _,Nat.le_refl _⟩
 ·intro v hv
  have hv:v∈[(⟨⟨#[110]⟩,true,⟨#[]⟩,0⟩:Va)]:=hv
  rw[List.mem_singleton]at hv;subst hv
  exact⟨by decide,by decide⟩
 ·intro x hx
  have hx:x∈[(⟨⟨#[97]⟩,some ⟨bx,0,none⟩,2,[ZqL _ _ _ _ _ _ _,ZvI]⟩:Sta),⟨⟨#[98]⟩,some ⟨by',0,none⟩,1,[ZwF]⟩]:=hx
  simp only[List.mem_cons,List.not_mem_nil,or_false]at hx
  rcases hx with rfl|rfl
  ·refine⟨by show(ByteArray.mk #[97]).size<=_;decide,by show 2<=few;decide,r10.mono k10,λr hr=>?_⟩
   simp only[List.mem_cons,List.not_mem_nil,or_false]at hr
   rcases hr with rfl|rfl
   ·refine⟨by show(0:Int)<=1/\(1:Int) < 256;decide,hT,by show(ByteArray.mk #[]).size<=_;decide,by show I64 0;unfold I64;omega,by show 2<=few;decide,r9.mono k9,λp hp=>?_,by show(ByteArray.mk #[98]).size<=_;decide,by show I64 0;unfold I64;omega⟩
    have hp:p∈[ZAj (some ⟨bl,0,none⟩),ZAk (some ⟨bs,0,none⟩) (some ⟨bp,0,none⟩)]:=hp
    simp only[List.mem_cons,List.not_mem_nil,or_false]at hp
    rcases hp with rfl|rfl
    ·exact yi
    ·exact yj
   ·exact⟨by decide,Zxo _,by decide,Zxp.1,by decide,.inl rfl,(λp hp=>by cases hp),by decide,Zxp.2.1⟩
  ·refine⟨by show(ByteArray.mk #[98]).size<=_;decide,by show 1<=few;decide,r11.mono k11,λr hr=>?_⟩
   simp only[List.mem_cons,List.not_mem_nil,or_false]at hr
   subst hr
   exact⟨by decide,Zxo _,by decide,Zxp.2.2,by decide,.inl rfl,(λp hp=>by cases hp),by decide,Zxp.2.2⟩
theorem ZkI{a b c d e f:Int}:∀(v:Value)(m':Mem) (css:List (List Value)),Ret (.agg (msV a b c d e f).toArray) v m' css->Shape.fits (.agg [.int .i64,.int .i64,.int .i64,.int .i64,.int .i64,.int .i64]) v=true:=λv _ _ h=>by rw[show v=_ from h];rfl
set_option maxHeartbeats 1000000 in
theorem ZpO(m:Mem):CX Tryz.prog 9 #[] m [] (Ret (.bool true)):=by
 apply Zh0
 refine⟨_,trivial,ZpN m,Zxl,?_⟩
 rintro n a n1 c a1 n2 c1 m1 aE ⟨g,r,cc,w,l,s,p,a0,r1,r2,S,hv,hr⟩ b1
 obtain⟨sc,kP⟩:∃sc,sc=aeS g r cc w l s p a0 r1 r2 S:=⟨_,rfl⟩
 rw[<-kP]at hv hr
 have hl:sc.light=true:=by rw[kP];exact ZuL g r cc w l s p a0 r1 r2 S
 have jP:sc.places.length=11:=by rw[kP];exact Zsx g r cc w l s p a0 r1 r2 S
 have ym:sc.places[5]?=some ⟨-1,0,0,1,-1⟩:=by rw[kP];exact Zsy g r cc w l s p a0 r1 r2 S
 have bI:Zip sc=msV 2 3 5 2 2 2:=by rw[kP];exact ZwG g r cc w l s p a0 r1 r2 S
 have vL:Zip (Zin sc 0 0)=msV 2 2 0 0 0 0:=by rw[kP];exact ZuM g r cc w l s p a0 r1 r2 S
 have jL:sc.states[0]?=some ⟨⟨#[97]⟩,r1,2,[ZqL g r cc l s p a0,ZvI]⟩:=by rw[kP];rfl
 have eR:sc.states[1]?=some ⟨⟨#[98]⟩,r2,1,[ZwF]⟩:=by rw[kP];rfl
 have jB:sc.states.length=2:=by rw[kP];rfl
 have yo:ZxF sc.states ⟨⟨#[97]⟩,r1,2,[ZqL g r cc l s p a0,ZvI]⟩=[1]:=by rw[kP];exact ZwI g r cc w l s p a0 r1 r2 S
 have yp:ZxF sc.states ⟨⟨#[98]⟩,r2,1,[ZwF]⟩=[]:=by rw[kP];exact ZwJ g r cc w l s p a0 r1 r2 S
 obtain⟨rfl,rfl,rfl,rfl,rfl,rfl,rfl⟩:=ZpM hv
 obtain⟨b2,o2,fy,iA⟩:=Zaj Sta.len hr.row jL (by decide)
 have cE:=hr.all _ (zA2 jL)
 have gD:(⟨⟨#[97]⟩,r1,2,[ZqL g r cc l s p a0,ZvI]⟩:Sta).rules[0]?=some (ZqL g r cc l s p a0):=rfl
 obtain⟨b3,o3,fF,jD⟩:=Zaj Ru.len cE.row gD (by decide)
 have jR:=cE.all _ (zA2 gD)
 refine⟨b2,o2,fy,⟨by omega,by omega⟩,_,iA 1 _ rfl,Zaa rfl ⟨b3,o3,fF,⟨by show(0:Int)<=0;omega,by show(0:Int) < ((2:Nat):Int);omega⟩,_,_,_,_,_,_,_,_,_,_,_,_,_,_,_,_,jD,λb4=>Zaa rfl ?_⟩⟩
 refine Zan (ZsU sc m1 hr) Zou ?_
 rintro pa pn pc m2 aI ⟨pa',pc',qD,qH⟩
 simp only[Value.slice.injEq]at qD
 obtain⟨rfl,rfl,rfl⟩:=qD
 rw[jP]
 refine⟨_,trivial,Zt1 sc 0 0 m2 (hr.mono aI) hl jL (Nat.zero_lt_two),Zox,?_⟩
 rintro n3 a3 n4 c3 a4 n5 c4 n6 m3 aP ⟨sd,rU,pj,nY⟩ b5
 have uv:(Value.agg #[.int .i64 n3,.slice a3 n4 c3,.slice a4 n5 c4]=sd.v)/\n6=0:=by
  simp only[Value.tuple.injEq,Array.mk.injEq,List.cons.injEq,Value.int.injEq,true_and,and_true]at rU
  exact rU
 obtain⟨yq,rfl⟩:=uv
 have ph:=mLt aI aP
 refine Zan (ZpH sc m3 (hr.mono ph)) Zvg ?_
 rintro ta tn tc m4 bU ⟨ta',tc',L',cD,gk,mW,qI⟩
 simp only[Value.slice.injEq]at cD
 obtain⟨rfl,rfl,rfl⟩:=cD
 rw[hl,if_pos rfl]at gk
 have yr:L'.length=2:=by
  have:=congrArg List.length gk
  rw[List.length_map,List.length_map,jB]at this;exact this
 obtain⟨y0,pt⟩:=Zdz (show 0 < L'.length by omega)
 obtain⟨y1,wb⟩:=Zdz (show 1 < L'.length by omega)
 have e0:y0.l=[1]:=by
  have:=congrArg (λl=>l[0]?) gk
  simp only[List.getElem?_map,pt,jL,Option.map_some,Option.some.injEq]at this
  rw[this,yo]
 have e1:y1.l=[]:=by
  have:=congrArg (λl=>l[1]?) gk
  simp only[List.getElem?_map,wb,eR,Option.map_some,Option.some.injEq]at this
  rw[this,yp]
 have gI:=mLt ph bU
 have hz:=Zmn sc m4 (hr.mono gI)
 rw[bI]at hz
 refine⟨false,Zhy rfl (Zhy rfl ⟨rfl,by rw[yr];rfl⟩),Zhy rfl ⟨_,trivial,hz,ZkI,?_⟩⟩
 rintro z1 z2 z3 z4 z5 z6 m5 cC ig
 have ig:Value.agg _=Value.agg _:=ig
 simp only[msV,Value.agg.injEq,Array.mk.injEq,List.cons.injEq,Value.int.injEq,true_and,and_true]at ig
 obtain⟨rfl,rfl,rfl,rfl,rfl,rfl⟩:=ig
 have qq:=mLt gI cC
 obtain⟨b6,o6,iw,uw⟩:=Zaj Il.len mW pt (by omega)
 obtain⟨b7,o7,ue,ux⟩:=Zaj Il.len mW wb (by omega)
 refine⟨_,Zxk 2 3 5 2 2 2 2 3 5 2 2 2,ZsF rfl ⟨b6,o6,iw,⟨by omega,by omega⟩,_,(uw.mono cC) 0 _ rfl,λb8 oJ=>?_⟩⟩
 have hE:=ZsV y0.l [1] y0.a (some ⟨b8,0,none⟩) y0.c 1 (m5.add b8 [.int .i64 1]) (by rw[e0];decide) ((qI y0 (zA2 pt)).mono (mLt cC (Mem.le_add oJ _))) Zbh
 rw[decide_eq_true e0]at hE
 refine Zag hE λm6 eS=>ZsF rfl ⟨b7,o7,ue,⟨by omega,by omega⟩,_,(ux.mono (mLt cC (mLt (Mem.le_add oJ _) eS))) 0 _ rfl,Zaa rfl (ZsF (by show(((y1.l.length:Nat):Int) == 0)=true;rw[e1];rfl) ?_)⟩
 have jH:=mLt qq (mLt (Mem.le_add oJ _) eS)
 have wd:=Zvj (ZqL g r cc l s p a0) m6 (jR.mono jH)
 rw[ZuN]at wd
 refine Zan wd ZgW ?_
 rintro ra rn rc m7 fG ⟨ra',rc',we,qJ⟩
 simp only[Value.slice.injEq]at we
 obtain⟨rfl,rfl,rfl⟩:=we
 intro b9 rV
 have wg:=ZkH [⟨#[110]⟩] [⟨#[110]⟩] ra (some ⟨b9,0,none⟩) rc 1 (m7.add b9 [.string ⟨#[110]⟩]) (by decide) (qJ.mono (Mem.le_add rV _)) Zbh
 rw[decide_eq_true rfl]at wg
 refine Zag wg λm8 fh=>ZsF rfl ?_
 have rQ:=mLt jH (mLt fG (mLt (Mem.le_add rV _) fh))
 have wh:=ZsT (ZqL g r cc l s p a0) m8 (jR.mono rQ)
 rw[Zsz]at wh
 refine Zan wh ZgW ?_
 rintro wa wn wc m9 iz ⟨wa',wc',rT,qK⟩
 simp only[Value.slice.injEq]at rT
 obtain⟨rfl,rfl,rfl⟩:=rT
 intro b10 gV
 have wi:=ZkH [⟨#[110]⟩] [⟨#[110]⟩] wa (some ⟨b10,0,none⟩) wc 1 (m9.add b10 [.string ⟨#[110]⟩]) (by decide) (qK.mono (Mem.le_add gV _)) Zbh
 rw[decide_eq_true rfl]at wi
 refine Zag wi λm10 i7=>ZsF rfl ?_
 have qL:=mLt rQ (mLt iz (mLt (Mem.le_add gV _) i7))
 have wj:=Zxg (ZqL g r cc l s p a0) m10 (jR.mono qL)
 rw[ZwH]at wj
 refine ZcH wj λm11 fQ=>ZsF rfl ?_
 have uy:=mLt qL fQ
 have yt:m2.le m11:=mLt aP (mLt bU (mLt cC (mLt (Mem.le_add oJ _) (mLt eS (mLt fG (mLt (Mem.le_add rV _) (mLt fh (mLt iz (mLt (Mem.le_add gV _) (mLt i7 fQ))))))))))
 obtain⟨b12,o12,uz,qM⟩:=Zaj (λp:Pl=>(rfl:p.cs.length=5)) (qH.mono yt) ym (Nat.zero_lt_succ 4)
 refine⟨b12,o12,uz,⟨by omega,by omega⟩,_,_,_,_,_,qM,_,ZyT ⟨-1,0,0,1,-1⟩ ⟨-1,0,0,1,-1⟩,ZsF rfl ?_⟩
 have yu:m3.le m11:=mLt bU (mLt cC (mLt (Mem.le_add oJ _) (mLt eS (mLt fG (mLt (Mem.le_add rV _) (mLt fh (mLt iz (mLt (Mem.le_add gV _) (mLt i7 fQ)))))))))
 have wk:=Zmn sd m11 (nY.mono yu)
 rw[ZqP pj,vL,<-yq]at wk
 refine⟨_,trivial,wk,ZkI,?_⟩
 rintro y1 y2 y3 y4 y5 y6 m12 jJ rW
 have rW:Value.agg _=Value.agg _:=rW
 simp only[msV,Value.agg.injEq,Array.mk.injEq,List.cons.injEq,Value.int.injEq,true_and,and_true]at rW
 obtain⟨rfl,rfl,rfl,rfl,rfl,rfl⟩:=rW
 exact⟨_,Zxk 2 2 0 0 0 0 2 2 0 0 0 0,Zaf (mLt aE (mLt uy jJ)) rfl⟩
end Go.Proofs.YtpjepnkiiojgfaaGreat
namespace Go.Proofs.YtpjepnkiiojgfaaGreat
open Go Go.Eng Go.Proofs Go.RowKit
open Go.Value (int slice agg bool string tuple func)
open Go.IntKind (u8 u64 i64)
set_option maxRecDepth 100000
def ZpP:Env:={ EB with
 loops:=(λi=>bif Nat.beq i 7 then⟨[(27,.int .i64)],[4,7],[(61,2)],false⟩ else⟨[],[],[],false⟩)
 joins:=(λi=>bif Nat.beq i 10 then some [(48,.bool)]else none)
 dr:=(λi=>bif Nat.beq i 13 then[⟨0,[7],[],none,[],[]⟩,⟨1,[7],[],none,[0],[]⟩,⟨2,[6],[],none,[],[]⟩,⟨3,[6],[],none,[2],[]⟩,⟨4,[],[],none,[],[]⟩,⟨5,[],[],none,[2,3,4],[]⟩,⟨6,[],[],none,[2,3,4,5],[]⟩,⟨7,[60],[60],none,[2,3,4,5,6],[]⟩,⟨8,[60],[],some 61,[0,1,2,3,4,5,6,7],[7]⟩,⟨9,[7],[],none,[0,1,2,3,4,5,6,7,8],[]⟩,⟨10,[7],[7],none,[0,1,2,3,4,5,6,7,8,9],[]⟩]else[])
 tokOf:=(λi=>bif Nat.beq i 61 then 61 else 0)
 frzNew:=[2]
 thaw:=true
 kF:=true }
theorem Zoy(aA:Int)(aW:Option Addr)(aS aX:Nat)(aO:Option Addr)(aJ aT:Nat)(p1a:Option Addr)(p1n p1c:Nat)(m:Mem)(R:RT)(h:
 lV [int i64 aA,slice aW aS aX,slice aO aJ aT] λxL=>fzM m xL λb m'=>lE [some (Box.mk b xL 32 3 true true)] λan=>m.free b->(∀(b' o:Nat)(u:Value),m' b' o=some u->m b' o =
 some u\/b'=b)->Mem.k m b=none->∀(b:Nat),kB Tryz.prog 19 [agg (Array.mk xL)] m' λax m'=>br (!ax) (rtM m m' R (tuple (Array.mk [agg (Array.mk [int i64 0,slice none 0 0,slice none 0 0]),int i64 250])))
 (∃(R_1:RT),True/\CX Tryz.prog 18 (Array.mk [agg (Array.mk xL)]) m' [] R_1/\Za3 (Shape.agg [Shape.int i64,Shape.slice,Shape.slice]) R_1/\∀(n:Int)(a:Option Addr)(ao c:Nat)(ap:Option Addr) (ai ay:
 Nat) (ad:Mem),lV [int i64 n,slice a ao c,slice ap ai ay] λxL=>m'.le ad->R_1 (agg (Array.mk xL)) ad []->∀(az aq ae:Nat),lE (some (Box.mk az xL 32 3 false true)) λyL=>ad.free ae->Mem.k ad ae
 = none->∃(I:IT),inI I [int i64 0] [[int i64 0,slice none 0 0,slice none 0 0],[int i64 n,slice a ao c,slice none 0 0]] [slice none 0 0] (Mem.updK ad ae [])/\∀(n:Int)(cs aa:List Value)(a:Option Addr)
 (a0 c:Nat) (m':Mem) (ar:Nat),lX (slice a a0 c) λaj=>lE [some (Tok.mk aj 2)] λxL=>lE (some (Box.mk aq aa 32 3 false true)::yL::some (Box.mk b cs 32 3 false true)::an) λa1=>True->I [int i64 n]
 [cs,aa] [aj] m' ar->br (decide (n < (↑p1n:Int))) (atA p1a λa2 o=>Zae n p1n/\∃(v:Value),lE (Za6 i64 v&&decide (i64=i64)) λau=>m' a2 (o+Int.toNat n*1)=some v/\∃(av:Nat),∃(es:List
 (Value×Value)),∃(aw:Value),∃(o:Bool),lV (Array.toList (Value.cells aw)) λak=>Value.map (some ae)=Value.map (some av)/\Mem.k m' av=some es/\ZoF Tryz.prog 3 v/\LookIs Tryz.prog 3 v es (agg
 (Array.mk [])) aw o/\∀(a3:Nat),lE (some (Box.mk a3 ak 116 0 false true)::a1) λal=>chk (Nat.beq (ak.length) 0&&ZdK ak) (∃(ag:Bool),br o (Zac al/\xL=xL/\[bool true]=[bool ag]) (chk au (br
 (decide (RowKit.intOf v < (0:Int))) (Zac al/\xL=xL/\[bool true]=[bool ag]) (chk au (Zac al/\xL=xL/\[bool (decide (RowKit.intOf v ≥ (↑ai:Int)))]=[bool ag]))))/\br ag (rtM m m' R (tuple (Array.mk
 [agg (Array.mk [int i64 0,slice none 0 0,slice none 0 0]),int i64 250]))) (∃(ah:Nat),∃(es:List (Value×Value)),∃(es':List (Value×Value)),lM (Mem.updK m' ah es') λmL=>Value.map (some ae) =
 Value.map (some ah)/\Mem.k m' ah=some es/\ZoF Tryz.prog 3 v/\ZhB Tryz.prog 3 v (agg (Array.mk [])) es es'/\Mem.k m ah=none/\Eng.Zs8 aa 2 λab=>lE (slN ab+1) λac=>chk (Zcl v) (atA ap λa4
 o=>Zae (RowKit.intOf v) ai/\∃a5 a6:Value,lV [a5,a6] λxL=>mL.reads a4 (o+Int.toNat (RowKit.intOf v)*2) xL/\∀(am:Nat),lM (mL.add am xL) λaf=>mL.free am->chk (ZbF
 ab&&true) ((Tok.mk aj 2=Tok.mk ab 2\/ab=slice none 0 0\/slC ab < ac)/\∃(xs:List Value),∃(ys:List Value),xs.length=slN ab*2/\ys.length=1*2/\rowRd af (slA ab) xs/\rowRd af (some
 (Addr.mk am 0 none)) ys/\(∀(u:Value),u∈ys->u.oneCell'=true)/\ac*40<=140737488355328/\ac<=9223372036854775807/\∀(a':Option Addr)(c':Nat)(m':Mem),af.le m'->rowRd m' a' (List.append xs
 ys)->TokFact af (slA ab) a' ac c'->chk (Nat.ble 3 (aa.length)) (∀(M:Mem),mL.le M->af.le M->m'.le M->Zac (some (Box.mk aq [] 32 3 false true)::yL::some (Box.mk b [] 32 3 false true) ::
 an)/\nxI ar I [int i64 (i64.wrap (n+(1:Int)))] [cs,ZaF aa 2 [slice a' ac c']] [slice a' ac c'] M)))))) (chk (Nat.beq (aa.length) 3&&ZdK aa) (rtM m m' R (tuple (Array.mk [agg (Array.mk aa),int
 i64 0])))))):CX Tryz.prog 15 #[.agg #[.int .i64 aA,.slice aW aS aX,.slice aO aJ aT],.slice p1a p1n p1c] m [] R:=
 Zad (E:=ZpP) Zao mix Tryz.func15 (by kernel_rfl) (Eq.mp (by kernel_rfl) h)
end Go.Proofs.YtpjepnkiiojgfaaGreat
namespace Go.Proofs.YtpjepnkiiojgfaaGreat
open Go Go.Eng Go.Rx Go.Proofs Go.RowKit
set_option maxRecDepth 100000
theorem Zy0(a b:Int):EqIs Tryz.prog 3 (.int .i64 a) (.int .i64 b) (decide (a=b)):=Zp0 Tryz.underlying3 (by simp[Instr.sameNow];rfl) (λop ox oy w=>by cases op <;> simp[eqGuard])
end Go.Proofs.YtpjepnkiiojgfaaGreat
namespace Go.Proofs.YtpjepnkiiojgfaaGreat
open Go Go.Eng Go.Proofs Go.RowKit
open Go.Value (int slice agg bool string tuple func)
open Go.IntKind (u8 u64 i64)
set_option maxRecDepth 100000
def ZsY:Env:={ EB with
 dr:=(λi=>bif Nat.beq i 4 then[⟨0,[10],[],none,[],[]⟩,⟨1,[10],[],none,[0],[]⟩,⟨2,[],[],none,[],[]⟩,⟨3,[],[],none,[0,1,2],[]⟩,⟨4,[],[],none,[0,1,2,3],[]⟩,⟨5,[],[],none,[0,1,2,3,4],[]⟩,⟨6,[],[],none,[],[]⟩,⟨7,[7],[],none,[],[]⟩]else bif Nat.beq i 7 then[⟨0,[10],[],none,[],[]⟩,⟨1,[10],[],none,[0],[]⟩,⟨2,[],[],none,[],[]⟩,⟨3,[],[],none,[0,1,2],[]⟩,⟨4,[],[],none,[0,1,2,3],[]⟩,⟨5,[],[],none,[0,1,2,3,4],[]⟩,⟨6,[],[],none,[],[]⟩,⟨7,[7],[],none,[],[]⟩,⟨8,[],[],none,[7],[]⟩]else[])
 frzNew:=[4,7]
 thaw:=true
 stAt:=(λi=>bif Nat.beq i 27 then some 999 else bif Nat.beq i 41 then some 999 else none)
 last:=(λi=>bif Nat.beq i 4 then true else bif Nat.beq i 7 then true else false)
 lastK:=(λi=>bif Nat.beq i 4 then 2 else bif Nat.beq i 7 then 2 else 1)
 kF:=true }
theorem ZpQ(aA:Int)(aW:Option Addr)(aS aX:Nat)(aO:Option Addr)(aJ aT:Nat)(p1 p2 qN:Int)(qO qP:Bool)(qQ qR qS qT qU qV qW:Int)(kQ:Option Addr)(kR kU:Nat)(mX:ByteArray)(mY:Int)(kV:Option Addr)(kW kX:Nat)(mZ:ByteArray)(na:Int)(m:Mem)(R:RT)(h:
 lE (Int.toNat p2*16) λyL=>lV [int i64 aA,slice aW aS aX,slice aO aJ aT] λxL=>lV [int u8 qN,bool qO,bool qP,int u8 qQ,int u64 qR,int u64 qS,int u64 qT,int u64 qU,
 int i64 qV,int i64 qW,slice kQ kR kU,string mX,int i64 mY,slice kV kW kX,string mZ,int i64 na] λae=>fzM m xL λb m'=>m.free b->(∀(b' o:Nat)(u:Value),m'
 b' o=some u->m b' o=some u\/b'=b)->Mem.k m b=none->fzM m' ae λaa aj=>m'.free aa->(∀(b' o:Nat)(u:Value),aj b' o=some u->m' b' o=some u\/b'=aa)->Mem.k m' aa=none->∀(a8:Nat),kB
 Tryz.prog 47 [agg (Array.mk xL),int i64 p1,int i64 p2] aj λak m'=>br (!ak) (rtM m m' R (tuple (Array.mk [agg (Array.mk [int i64 0,slice none 0 0,slice none 0 0]),int i64 250]))) (∃(R_1:RT),True/\CX
 Tryz.prog 18 (Array.mk [agg (Array.mk xL)]) m' [] R_1/\Za3 (Shape.agg [Shape.int i64,Shape.slice,Shape.slice]) R_1/\∀(n:Int)(a:Option Addr)(al c:Nat)(af:Option Addr)(ag am:Nat)(ab:Mem),lX (agg
 (Array.mk [int i64 n,slice a al c,slice af ag am])) λah=>m'.le ab->R_1 ah ab []->∀(a9:Nat),atA af λan o=>Zae p1 ag/\∃(v:Value),ab an (o+Int.toNat p1*2+1)=some v/\chk (ZbF v) (atA
 (slA v) λac o=>Zae p2 (slN v)/\(∃(vs:List Value),vs.length=16/\ab.reads ac (o+yL) vs)/\m.free ac/\true=true/\aa≠ac/\b≠ac/\kB Tryz.prog 19 [ah] (Mem.upd ab ac (o+yL) ae) fun
 ao m'=>br (!ao) (rtM m m' R (tuple (Array.mk [agg (Array.mk [int i64 0,slice none 0 0,slice none 0 0]),int i64 5]))) (∃(f:Fx),atA af λap o=>Zae p1 ag/\∃(v:Value),m' ap (o+Int.toNat p1*2+1) =
 some v/\∃(R_2:RT),R_2=f 8 [agg (Array.mk ae)] m'/\CX Tryz.prog 49 (Array.mk [agg (Array.mk ae)]) m' [] R_2/\Za3 (Shape.agg [Shape.int u8,Shape.bool,Shape.bool,Shape.int u8,Shape.int u64,Shape.int u64,
 Shape.int u64,Shape.int u64,Shape.int i64,Shape.int i64,Shape.slice,Shape.str,Shape.int i64,Shape.slice,Shape.str,Shape.int i64]) R_2/\∀(n:Int)(aq ar:Bool)(au av aw ax ay az a0:Int)(a:Option Addr)
 (a1 c:Nat) (s:ByteArray) (a2:Int) (a3:Option Addr) (a4 a5:Nat) (a6:ByteArray) (a7:Int) (ai:Mem),lV [int u8 n,bool aq,bool ar,int u8 au,int u64 av,int u64 aw,int u64 ax,int u64 ay,int i64 az,int
 i64 a0,slice a a1 c,string s,int i64 a2,slice a3 a4 a5,string a6,int i64 a7] λxL=>m'.le ai->R_2 (agg (Array.mk xL)) ai []->∀(M:Mem),m'.le M->ai.le M->chk (ZbF v) (atA (slA v) λad o=>
 Zae p2 (slN v)/\(∃(vs:List Value),vs.length=16/\M.reads ad (o+yL) vs)/\m.free ad/\true=true/\aa≠ad/\b≠ad/\rtM m (Mem.upd M ad (o+yL) xL) R (tuple (Array.mk [ah,int i64 0]))))))):CX Tryz.prog 14 #[.agg #[.int .i64 aA,.slice aW aS aX,.slice aO aJ aT],.int .i64 p1,.int .i64 p2,.agg #[.int .u8 qN,.bool qO,.bool qP,.int .u8 qQ,.int .u64 qR,.int .u64 qS,.int .u64 qT,.int .u64 qU,.int .i64 qV,.int .i64 qW,.slice kQ kR kU,.string mX,.int .i64 mY,.slice kV kW kX,.string mZ,.int .i64 na]] m [] R:=
 Zad (E:=ZsY) Zao mix Tryz.func14 (by kernel_rfl) (Eq.mp (by kernel_rfl) h)
end Go.Proofs.YtpjepnkiiojgfaaGreat
namespace Go.Proofs.YtpjepnkiiojgfaaGreat
open Go Go.Eng Go.Rx Go.Proofs Go.RowKit
set_option maxRecDepth 100000
end Go.Proofs.YtpjepnkiiojgfaaGreat
end
