/- Part of the proof: conditions and contracts of functions of this program. No condition of its own. -/
import Derived.Test.YtiadlgdcbpnmkaaGreatDoorPC25Q
import Derived.Test.YtiadlgdcbpnmkaaGreatDoorMr
import Derived.Test.YtiadlgdcbpnmkaaGreatDoorPVEC
import Derived.Test.YtiadlgdcbpnmkaaGreatDoorMc
import Derived.Test.YtiadlgdcbpnmkaaGreatDoorRows
import Derived.Deep.Slices
import Derived.Laws.IdiomArrays
import Derived.SizedLaws
import Derived.Test.YtiadlgdcbpnmkaaGreatDoorCards
import Derived.Test.YtiadlgdcbpnmkaaGreatDoorTie
import Derived.LaidMore
import Derived.Lay
import Derived.SevenTiedAt
import Derived.OpenShut
import Derived.ProofKit
set_option linter.unusedVariables false
set_option linter.unusedSimpArgs false
set_option linter.unusedSectionVars false
namespace Go.Proofs.YtiadlgdcbpnmkaaGreatDoor
open Go Go.Eng Go.Rx Go.Proofs Go.RowKit
set_option maxRecDepth 100000
def ZtA(most:Int)(N:Nat):Value->Mem->List (List Value)->Prop:=λv _ _=>∃n:Int,v=.int .i64 n/\1<=n/\n<=most+1/\(n<=most->(N:Int)<=n)
theorem Zf3{most N}:∀(v:Value)(m':Mem) (css:List (List Value)),ZtA most N v m' css->Shape.fits (.int .i64) v=true:=λv _ _ ⟨_,e,_⟩=>by rw[e];rfl
theorem ZvV:∀(t:T)(most:Int)(m:Mem),Rep m t->0<=most->most<=1000000->CX Tryz.prog 30 #[t.v,.int .i64 most] m [] (ZtA most t.nodes.length):=by
 intro t
 induction hn:SizeOf.sizeOf t using Nat.strongRecOn generalizing t with
 | ind n ih=>
 intro most m hr h0 h1
 obtain⟨bL,dD⟩:=Zgw hr
 apply ZmZ
 unfold Zic
 intro b m1 aU _
 refine⟨λxs _ _ m' q=>∃(k:Nat)(n:Int),k<=t.subs.length/\xs=[.int .i64 n,.int .i64 k]/\1<=n/\n<=most+1/\(n<=most->(1+(Zbc (t.subs.take k)).length:Int)<=n)/\q=t.subs.length - k,⟨_,0,1,Nat.zero_le _,rfl,by omega,by omega,λ_=>by simp[Zbc],rfl⟩,?_⟩
 rintro s z m2 q bG ⟨k,n',hk,hx,gx,gn,nT,hq⟩
 simp only[List.cons.injEq,Value.int.injEq,true_and,and_true]at hx
 obtain⟨rfl,rfl⟩:=hx
 subst hq
 have hm:=mLt aU bG
 refine ZaF (λbF=>?_) (λdC=>Zaa hm ⟨s,rfl,gx,gn,λh=>?_⟩)
 rotate_left
 ·obtain rfl:k=t.subs.length:=by omega
  have h:=nT h
  rw[List.take_length]at h
  rw[Ze8,List.length_cons]
  push_cast;omega
 have bQ:k < t.subs.length:=by omega
 obtain⟨x,hx⟩:=Zb8 bQ
 rcases(Zgw (hr.mono hm)).2 with hs|⟨bb,o,ha,fD⟩
 ·rw[hs]at bQ;simp at bQ
 have hg:=fD.get hx
 refine⟨bb,o,ha,⟨by omega,by omega⟩,_,_,_,_,_,_,_,_,hg.1,λb2=>Zab rfl (ZaF (λh2=>Zaa hm ⟨s,rfl,gx,gn,λh=>absurd h (by omega)⟩) (λh2=>?_))⟩
 rw[Zan (n:=most - s) (by omega) (by omega)]
 have eB:=Zsi (List.mem_of_getElem? hx)
 refine Zao (ih _ (by omega) x rfl (most - s) m2 hg.2 (by omega) (by omega)) Zf3 ?_
 rintro n3 m3 bX ⟨n3',hv,h3,h4,h5⟩
 obtain rfl:n3=n3':=by simpa using hv
 refine⟨rfl,t.subs.length - (k+1),by omega,k+1,s+n3,bQ,by rw[Zan (by omega) (by omega),Zan (by omega) (by omega)];rfl,by omega,by omega,λh=>?_,rfl⟩
 have g1:=nT (by omega)
 have g2:=h5 (by omega)
 rw[Zj1 hx,List.length_append]
 push_cast;omega
theorem ZtB:∀(t:E)(most:Int)(m:Mem),RepE m t->0<=most->most<=1000000->CX Tryz.prog 31 #[t.v,.int .i64 most] m [] (ZtA most t.nodes.length):=by
 intro t
 induction hn:SizeOf.sizeOf t using Nat.strongRecOn generalizing t with
 | ind n ih=>
 intro most m hr h0 h1
 obtain⟨bL,dD⟩:=Zgy hr
 apply Zjy
 unfold Zfz
 intro b m1 aU _
 refine⟨λxs _ _ m' q=>∃(k:Nat)(n:Int),k<=t.subs.length/\xs=[.int .i64 n,.int .i64 k]/\1<=n/\n<=most+1/\(n<=most->(1+(ZaO (t.subs.take k)).length:Int)<=n)/\q=t.subs.length - k,⟨_,0,1,Nat.zero_le _,rfl,by omega,by omega,λ_=>by simp[ZaO],rfl⟩,?_⟩
 rintro s z m2 q bG ⟨k,n',hk,hx,gx,gn,nT,hq⟩
 simp only[List.cons.injEq,Value.int.injEq,true_and,and_true]at hx
 obtain⟨rfl,rfl⟩:=hx
 subst hq
 have hm:=mLt aU bG
 refine ZaF (λbF=>?_) (λdC=>Zaa hm ⟨s,rfl,gx,gn,λh=>?_⟩)
 rotate_left
 ·obtain rfl:k=t.subs.length:=by omega
  have h:=nT h
  rw[List.take_length]at h
  rw[ZhK,List.length_cons]
  push_cast;omega
 have bQ:k < t.subs.length:=by omega
 obtain⟨x,hx⟩:=Zb8 bQ
 rcases dD with hs|⟨bb,o,ha,fD⟩
 ·rw[hs]at bQ;simp at bQ
 have hg:=(fD.mono' hm).get hx
 refine⟨bb,o,ha,⟨by omega,by omega⟩,_,_,_,_,_,hg.1,λb2=>Zab rfl (ZaF (λh2=>Zaa hm ⟨s,rfl,gx,gn,λh=>absurd h (by omega)⟩) (λh2=>?_))⟩
 rw[Zan (n:=most - s) (by omega) (by omega)]
 have eB:=Zou (List.mem_of_getElem? hx)
 refine Zao (ih _ (by omega) x rfl (most - s) m2 hg.2 (by omega) (by omega)) Zf3 ?_
 rintro n3 m3 bX ⟨n3',hv,h3,h4,h5⟩
 obtain rfl:n3=n3':=by simpa using hv
 refine⟨rfl,t.subs.length - (k+1),by omega,k+1,s+n3,bQ,by rw[Zan (by omega) (by omega),Zan (by omega) (by omega)];rfl,by omega,by omega,λh=>?_,rfl⟩
 have g1:=nT (by omega)
 have g2:=h5 (by omega)
 rw[ZhL hx,List.length_append]
 push_cast;omega
def Zxm(most:Int)(r:Ru):Value->Mem->List (List Value)->Prop:=λv _ _=>∃n:Int,v=.int .i64 n/\1<=n/\n<=9000000000000000/\(n<=most->r.short most/\wR r<=n)
theorem Zuz{most r}:∀(v:Value)(m':Mem) (css:List (List Value)),Zxm most r v m' css->Shape.fits (.int .i64) v=true:=λv _ _ ⟨_,e,_⟩=>by rw[e];rfl
set_option maxHeartbeats 1000000 in
theorem Zqy(r:Ru)(most:Int)(m:Mem)(hr:RepRw m r)(h0:0<=most)(h1:most<=1000):CX Tryz.prog 20 #[.agg r.cs.toArray,.int .i64 most] m [] (Zxm most r):=by
 apply Zhf
 unfold ZdY
 intro b m1 aU _
 have hs:=hr.s
 have hg:=hr.go
 have lU:=hr.len
 unfold big at lU
 refine⟨λi _ _=>ZtA most r.t.nodes.length,_,rfl,ZvV r.t most m1 (hr.t.mono aU) h0 (by omega),Zf3,?_⟩
 rintro n m2 bG ⟨n',hv,gx,gn,rK⟩ M jn _
 obtain rfl:n=n':=by simpa using hv
 have qj:=mLt aU jn
 have tQ:IntKind.i64.wrap (IntKind.i64.wrap (IntKind.i64.wrap (IntKind.i64.wrap (1+n)+(r.s.size:Int))+(r.go.size:Int))+(r.acts.length:Int))=1+n+r.s.size+r.go.size+r.acts.length:=by
  rw[Zan (n:=1+n) (by omega) (by omega),Zan (n:=1+n+(r.s.size:Int)) (by omega) (by omega),Zan (n:=1+n+(r.s.size:Int)+(r.go.size:Int)) (by omega) (by omega),Zan (by omega) (by omega)]
 refine⟨λxs _ _ m' q=>∃(i:Nat)(n:Int),i<=r.acts.length/\xs=[.int .i64 n,.int .i64 i]/\1<=n/\n<=9000000000000000/\(n<=most->((r.acts.length:Int)<=most/\∀a∈r.acts.take i,(a.parts.length:Int)<=most)/\(r.t.nodes.length:Int)<=most/\1+(r.t.nodes.length:Int)+r.acts.length+Zcd ((r.acts.take i).map wB)<=n)/\q=r.acts.length - i,
  ⟨r.acts.length,0,1+n+r.s.size+r.go.size+r.acts.length,by omega,by rw[tQ];rfl,by omega,by omega,λh=>⟨⟨by omega,by simp⟩,by have:=rK (by omega);omega,by have:=rK (by omega);simp[Zcd];omega⟩,rfl⟩,?_⟩
 rintro n z m3 q bX ⟨i,n',hi,hx,gx,gn,kZ,rfl⟩
 simp only[List.cons.injEq,Value.int.injEq,true_and,and_true]at hx
 obtain⟨rfl,rfl⟩:=hx
 have dY:=mLt qj bX
 refine ZaF (λbF=>?_) (λdC=>?_)
 ·have bF:(i:Int) < (r.acts.length:Int):=bF
  obtain⟨a,hU⟩:=Zb8 (show i < r.acts.length by omega)
  have iw:=hr.all a (List.mem_of_getElem? hU)
  have iE:=iw.n
  unfold big at iE
  have has:=iw.s
  obtain⟨b3,o3,jQ,iW⟩:=Zav Ac.len (hr.row.mono dY) hU (by omega)
  refine⟨b3,o3,jQ,⟨by omega,bF⟩,_,_,_,_,_,_,_,_,iW,λb4=>Zab rfl (ZaF (λh2=>Zaa dY ⟨n,rfl,gx,gn,λh=>absurd h (by omega)⟩) (λh2=>?_))⟩
  refine⟨λi _ _=>ZtA most a.e.nodes.length,_,rfl,ZtB a.e most m3 (RepE.mono dY _ iw.e) h0 (by omega),Zf3,?_⟩
  rintro n3 m4 cM ⟨n3',hv,h3,h4,tR⟩
  obtain rfl:n3=n3':=by simpa using hv
  refine Zab rfl (Zab rfl λM2 lr _=>Zab rfl ?_)
  have qM:=mLt dY lr
  have lW:slN (Value.slice a.pa a.parts.length a.pc)=a.parts.length:=rfl
  have qN:Zbx (Value.string a.s)=a.s:=rfl
  rw[lW,qN,Zan (n:=n3+(a.s.size:Int)) (by omega) (by omega),Zan (n:=n3+(a.s.size:Int)+(a.parts.length:Int)) (by omega) (by omega),Zan (by omega) (by omega)]
  have next:∀z:Int,n+1+a.parts.length<=z->(z<=most->n+wB a<=z)->(z<=most->((r.acts.length:Int)<=most/\∀x∈r.acts.take (i+1),(x.parts.length:Int)<=most)/\(r.t.nodes.length:Int)<=most/\1+(r.t.nodes.length:Int)+r.acts.length+Zcd ((r.acts.take (i+1)).map wB)<=z):=λz hz nU tS=>by
   obtain⟨⟨g1,g2⟩,g3,g4⟩:=kZ (by omega)
   refine⟨⟨g1,λx hx=>?_⟩,g3,by rw[ZcF wB hU];have:=nU tS;omega⟩
   rw[List.take_add_one,hU]at hx
   rcases List.mem_append.1 hx with hx|hx
   ·exact g2 x hx
   ·obtain rfl:x=a:=by simpa using hx
    omega
  refine⟨λxs _ _ m' q=>∃(k:Nat)(z:Int),k<=a.parts.length/\xs=[.int .i64 z,.int .i64 k]/\n+1+a.parts.length<=z/\z<=5000000000000000/\(z<=most->n+nE a.e+a.parts.length+Zcd ((a.parts.take k).map λp=>nE p.e)<=z)/\q=a.parts.length - k,⟨a.parts.length,0,_,by omega,rfl,by omega,by omega,λh=>by
   have g:=tR (by omega)
   rw[Zvz (by omega)];simp[Zcd];omega,rfl⟩,?_⟩
  rintro z w m5 q eJ ⟨k,z',hk,hx,kM,jZ,nU,rfl⟩
  simp only[List.cons.injEq,Value.int.injEq,true_and,and_true]at hx
  obtain⟨rfl,rfl⟩:=hx
  have kr:=mLt qM eJ
  have nV:IntKind.i64.wrap ((i:Int)+1)=((i+1:Nat):Int):=by rw[Zan (by omega) (by omega)];rfl
  refine ZaF (λeB=>?_) (λeY=>?_)
  ·have eB:(k:Int) < (a.parts.length:Int):=eB
   obtain⟨p,oH⟩:=Zb8 (show k < a.parts.length by omega)
   have gm:=iw.all p (List.mem_of_getElem? oH)
   have kO:=gm.s
   obtain⟨b5,o5,gO,ia⟩:=Zav Pt.len (iw.row.mono kr) oH (by omega)
   refine Zab rfl ⟨b5,o5,gO,⟨by omega,eB⟩,_,_,_,_,_,_,_,_,ia,λb6=>Zab rfl (ZaF (λh6=>⟨rfl,r.acts.length - (i+1),by omega,i+1,z,by omega,by rw[nV],by omega,by omega,next z kM (λh=>absurd h (by omega)),rfl⟩) (λh6=>?_))⟩
   refine⟨λi _ _=>ZtA most p.e.nodes.length,_,rfl,ZtB p.e most m5 (RepE.mono kr _ gm.e) h0 (by omega),Zf3,?_⟩
   rintro n6 m6 iv ⟨n6',hv,h7,h8,tT⟩
   obtain rfl:n6=n6':=by simpa using hv
   have nW:Zbx (Value.string p.s)=p.s:=rfl
   refine Zab rfl λM3 qL _=>?_
   rw[nW,Zan (n:=n6+(p.s.size:Int)) (by omega) (by omega),Zan (n:=z+(n6+(p.s.size:Int))) (by omega) (by omega)]
   refine⟨rfl,a.parts.length - (k+1),by omega,k+1,_,by omega,by rw[Zan (by omega) (by omega)];rfl,by omega,by omega,λh=>?_,rfl⟩
   have g:=tT (by omega)
   have g2:=nU (by omega)
   rw[ZcF (λp:Pt=>nE p.e) oH,Zvz (t:=p.e) (by omega)];omega
  ·have eY:¬(k:Int) < (a.parts.length:Int):=eY
   obtain rfl:k=a.parts.length:=by omega
   rw[List.take_length]at nU
   exact⟨rfl,r.acts.length - (i+1),by omega,i+1,z,by omega,by rw[nV],by omega,by omega,next z kM (λh=>by have:=nU h;unfold wB;omega),rfl⟩
 ·have dC:¬(i:Int) < (r.acts.length:Int):=dC
  obtain rfl:i=r.acts.length:=by omega
  rw[List.take_length]at kZ
  refine Zaa dY ⟨n,rfl,gx,gn,λh=>?_⟩
  obtain⟨g1,g2,g3⟩:=kZ h
  exact⟨g1,by rw[ZwL (by omega)];omega⟩
theorem ZtC(most:Int)(n:Nat)(h0:0<=most)(h1:most<=1000):∃k:Nat,Int.toNat (if most < (n:Int)then most else(n:Int)) - 0=k/\k<=n/\k<=1000/\((n:Int)<=most->k=n)/\(0<=(if most < (n:Int)then most else(n:Int))/\(if most < (n:Int)then most else(n:Int))<=(n:Int)):=by
 refine⟨_,rfl,?_⟩
 by_cases h:most < (n:Int)
 ·rw[if_pos h];omega
 ·rw[if_neg h];omega
def Zxn(most:Int)(s:Sc):Value->Mem->List (List Value)->Prop:=λv _ _=>∃b:Bool,v=.bool b/\(b=true->s.short most/\s.weight<=most)
theorem ZsU{most s}:∀(v:Value)(m':Mem) (css:List (List Value)),Zxn most s v m' css->Shape.fits .bool v=true:=λv _ _ ⟨_,e,_⟩=>by rw[e];rfl
set_option maxHeartbeats 1000000 in
theorem ZvW(s:Sc)(most:Int)(m:Mem)(hr:RepCw m s)(h0:0<=most)(h1:most<=1000):CX Tryz.prog 7 #[s.v,.int .i64 most] m [] (Zxn most s):=by
 apply Zm0
 unfold Zie
 intro b m1 aU _
 have eU:=hr.vlen
 have fV:=hr.len
 have kE:=hr.vcap
 have ux:=hr.scap
 unfold big at eU fV
 obtain⟨kv,tU,kv1,kv2,kv3,kv4⟩:=ZtC most s.vars.length h0 h1
 obtain⟨ks,jy,ks1,ks2,ks3,ks4⟩:=ZtC most s.states.length h0 h1
 simp only[tU,jy]
 have hw:∀k:Nat,k<=1000->IntKind.i64.wrap ((k:Int)+1)=((k+1:Nat):Int):=λk hk=>by rw[Zan (by omega) (by omega)];rfl
 refine⟨⟨kv4.1,by have:=kv4.2;omega⟩,λxs _ _ m' q=>∃(i:Nat)(n:Int),i<=kv/\xs=[.int .i64 n,.int .i64 i]/\(s.vars.length:Int)+s.states.length<=n/\n<=2000000000000000+i*2000000000000000/\q=kv - i,
  ⟨kv,0,(s.vars.length:Int)+s.states.length,by omega,by rw[Zan (by omega) (by omega)];rfl,by omega,by omega,rfl⟩,?_⟩
 rintro n z m2 q bG ⟨i,n',hi,hx,gx,gn,rfl⟩
 simp only[List.cons.injEq,Value.int.injEq,true_and,and_true]at hx
 obtain⟨rfl,rfl⟩:=hx
 have hO:=mLt aU bG
 refine ZaF (λbF=>?_) (λdC=>?_)
 ·have bF:(i:Int) < (kv:Int):=bF
  obtain⟨v,iy⟩:=Zb8 (show i < s.vars.length by omega)
  have hv:=hr.vall v (List.mem_of_getElem? iy)
  have qg:=hv.s
  have ry:=hv.t
  obtain⟨b3,o3,jQ,iW⟩:=Zav Va.len (hr.vrow.mono hO) iy (by omega)
  refine⟨b3,o3,jQ,⟨by omega,bF⟩,_,_,_,_,iW,λb4=>Zab rfl (Zab rfl (Zab rfl ⟨trivial,kv - (i+1),by omega,i+1,_,by omega,by rw[hw i (by omega)],?_,?_,rfl⟩))⟩
  all_goals
   show _<=_
   rw[show Zbx (Value.string v.s)=v.s from rfl,show Zbx (Value.string v.t)=v.t from rfl,Zan (n:=(v.s.size:Int)+(v.t.size:Int)) (by omega) (by omega),Zan (by omega) (by omega)]
   omega
 have dC:¬(i:Int) < (kv:Int):=dC
 have oh:n<=2100000000000000000:=by omega
 refine⟨⟨ks4.1,by have:=ks4.2;omega⟩,λxs _ _ m' q=>∃(j:Nat)(n:Int),j<=ks/\xs=[.int .i64 n,.int .i64 j]/\(s.vars.length:Int)+s.states.length<=n/\n<=2100000000000000000+j*1000000000000000/\(n<=most->(∀x∈s.states.take j,(x.rules.length:Int)<=most/\∀r∈x.rules,r.short most)/\(s.vars.length:Int)+s.states.length+Zcd ((s.states.take j).map wS)<=n)/\q=ks - j,
  ⟨ks,0,n,by omega,rfl,by omega,by omega,λ_=>⟨by simp,by simp[Zcd];omega⟩,rfl⟩,?_⟩
 rintro n z m3 q bX ⟨j,n',hj,hx,gx,gn,kZ,rfl⟩
 simp only[List.cons.injEq,Value.int.injEq,true_and,and_true]at hx
 obtain⟨rfl,rfl⟩:=hx
 have dY:=mLt hO bX
 refine ZaF (λbF=>?_) (λeY=>?_)
 ·have bF:(j:Int) < (ks:Int):=bF
  obtain⟨x,oQ⟩:=Zb8 (show j < s.states.length by omega)
  have dX:=hr.all x (List.mem_of_getElem? oQ)
  have eT:=dX.s
  have kp:=dX.len
  unfold big at kp
  obtain⟨b3,o3,jQ,iW⟩:=Zav Sta.len (hr.row.mono dY) oQ (by omega)
  refine⟨b3,o3,jQ,⟨by omega,bF⟩,_,_,iW,λb4=>Zab rfl (Zab rfl (Zab rfl ?_))⟩
  rw[show Zbx (Value.string x.s)=x.s from rfl,Zan (n:=n+(x.s.size:Int)) (by omega) (by omega)]
  refine⟨λxs _ _ m' q=>∃(k:Nat)(z:Int),k<=x.rules.length/\xs=[.int .i64 z,.int .i64 k]/\n+k<=z/\z<=2100000000000000000+(j+1)*1000000000000000/\(z<=most->(∀r∈x.rules.take k,r.short most)/\n+Zcd ((x.rules.take k).map wR)<=z)/\q=x.rules.length - k,⟨x.rules.length,0,_,by omega,rfl,by omega,by omega,λ_=>⟨by simp,by simp[Zcd];omega⟩,rfl⟩,?_⟩
  rintro z w m4 q cM ⟨k,z',hk,hx,kM,jZ,jk,rfl⟩
  simp only[List.cons.injEq,Value.int.injEq,true_and,and_true]at hx
  obtain⟨rfl,rfl⟩:=hx
  have jS:=mLt dY cM
  refine ZaF (λeB=>?_) (λiN=>?_)
  ·have eB:(k:Int) < (x.rules.length:Int):=eB
   obtain⟨r,gJ⟩:=Zb8 (show k < x.rules.length by omega)
   have gA:=dX.all r (List.mem_of_getElem? gJ)
   obtain⟨b5,o5,gO,ia⟩:=Zav Ru.len (dX.row.mono jS) gJ (by omega)
   refine Zab rfl ⟨b5,o5,gO,⟨by omega,eB⟩,_,_,_,_,_,_,_,_,_,_,_,_,_,_,_,_,ia,λb6=>Zab rfl (Zao (Zqy r most m4 (gA.mono jS) h0 (by omega)) Zuz ?_)⟩
   rintro n7 m5 eJ ⟨n7',hv,g1,g2,g3⟩
   obtain rfl:n7=n7':=by simpa using hv
   rw[Zan (n:=z+n7) (by omega) (by omega)]
   refine ZaF (λh=>Zaa (mLt jS eJ) ⟨false,rfl,λh=>by cases h⟩) (λh=>⟨trivial,x.rules.length - (k+1),by omega,k+1,z+n7,by omega,by rw[Zan (by omega) (by omega)];rfl,by omega,by omega,λhz=>⟨λr' hr'=>?_,by rw[ZcF wR gJ];have:=(jk (by omega)).2;have:=(g3 (by omega)).2;omega⟩,rfl⟩)
   rw[List.take_add_one,gJ]at hr'
   rcases List.mem_append.1 hr' with hr'|hr'
   ·exact(jk (by omega)).1 r' hr'
   ·obtain rfl:r'=r:=by simpa using hr'
    exact(g3 (by omega)).1
  ·have iN:¬(k:Int) < (x.rules.length:Int):=iN
   obtain rfl:k=x.rules.length:=by omega
   rw[List.take_length]at jk
   refine⟨trivial,ks - (j+1),by omega,j+1,z,by omega,by rw[hw j (by omega)],by omega,by omega,λhz=>⟨λy hy=>?_,by rw[ZcF wS oQ];have:=(jk hz).2;have:=(kZ (by omega)).2;unfold wS at *;omega⟩,rfl⟩
   rw[List.take_add_one,oQ]at hy
   rcases List.mem_append.1 hy with hy|hy
   ·exact(kZ (by omega)).1 y hy
   ·obtain rfl:y=x:=by simpa using hy
    exact⟨by omega,(jk hz).1⟩
 ·have eY:¬(j:Int) < (ks:Int):=eY
  refine Zaa dY ⟨_,rfl,λh=>?_⟩
  have hn:=of_decide_eq_true h
  obtain rfl:j=ks:=by omega
  have e:=ks3 (by omega)
  rw[e,List.take_length]at kZ
  have g:=kZ hn
  exact⟨⟨by omega,by omega,g.1⟩,by unfold Sc.weight;exact Int.le_trans g.2 hn⟩
theorem Zpn(s:Sc)(l r:List Pl):ZbX s (l++r)=ZbX s l++ZbX s r:=by unfold ZbX;exact List.filterMap_append ..
theorem Zlz{s:Sc}{l:List Pl}{z:Pl×Int}(h:z∈ZbX s l):z.1∈l/\z.2=atS s z.1/\z.2≠0:=by
 unfold ZbX at h
 obtain⟨p,hp,h⟩:=List.mem_filterMap.1 h
 split at h
 ·cases h
 ·rename_i h0
  cases h
  exact⟨hp,rfl,h0⟩
theorem Znl(s:Sc):s.problems.Pairwise λz y=>ZcK z.1 y.1=true:=by
 rw[Zb4];unfold ZbX
 refine List.Pairwise.filterMap _ (λp q jp z hz y hy=>?_) (ZgC s)
 split at hz
 ·cases hz
 ·split at hy
  ·cases hy
  ·cases hz;cases hy;exact jp
theorem ZvX{s:Sc}{i:Nat}{p:Pl}(hp:s.places[i]?=some p):
  (atS s p≠0->s.problems[(ZbX s (s.places.take i)).length]?=some (p,atS s p)/\(ZbX s (s.places.take (i+1))).length=(ZbX s (s.places.take i)).length+1)/\
  (atS s p=0->(∀z,s.problems[(ZbX s (s.places.take i)).length]?=some z->z.1≠p)/\(ZbX s (s.places.take (i+1))).length=(ZbX s (s.places.take i)).length):=by
 have e1:s.places.take (i+1)=s.places.take i++[p]:=by rw[List.take_add_one,hp];rfl
 have e2:s.problems=ZbX s (s.places.take (i+1))++ZbX s (s.places.drop (i+1)):=by rw[Zb4,<-Zpn,List.take_append_drop]
 have e3:ZbX s (s.places.take (i+1))=ZbX s (s.places.take i)++ZbX s [p]:=by rw[e1,Zpn]
 refine⟨λh=>?_,λh=>?_⟩
 ·have e4:ZbX s [p]=[(p,atS s p)]:=by unfold ZbX;simp[h]
  rw[e4]at e3
  refine⟨?_,by rw[e3,List.length_append];rfl⟩
  rw[e2,e3,List.append_assoc,List.getElem?_append_right (Nat.le_refl _)]
  simp
 ·have e4:ZbX s [p]=[]:=by unfold ZbX;simp[h]
  rw[e4,List.append_nil]at e3
  refine⟨λz hz=>?_,by rw[e3]⟩
  rw[e2,e3,List.getElem?_append_right (Nat.le_refl _),Nat.sub_self]at hz
  have hm:=(Zlz (List.mem_of_getElem? hz)).1
  obtain⟨j,hj⟩:=List.getElem?_of_mem hm
  rw[List.getElem?_drop]at hj
  exact λe=>(ZmL hp hj (by omega)).2 e.symm
set_option maxHeartbeats 2000000 in
theorem ZlA(s:Sc)(m:Mem)(hr:RepCw m s):CX Tryz.prog 4 #[s.v] m [] (Ret (.bool true)):=by
 apply Zev
 unfold ZcL
 intro b m1 aU _
 refine Zae (Zuy m1) λm2 bG=>ZfC rfl ?_
 have hO:=mLt aU bG
 refine Zao (ZvW s 800 m2 (hr.mono hO) (by decide) (by decide)) ZsU ?_
 rintro x m3 bX ⟨x',hv,hx⟩
 obtain rfl:x=x':=by simpa using hv
 have dY:=mLt hO bX
 refine Zac (λh=>Zaa dY rfl) (λh=>?_)
 obtain⟨lY,oR⟩:=hx (by simpa using h)
 have hl:s.light=true:=by unfold Sc.light;exact decide_eq_true (by omega)
 have hC:RepC m3 s:=Zqc (hr.mono dY) lY (by decide)
 refine Zao (Zpm s m3 hC) Zrq ?_
 rintro a n c m4 cM ⟨a',c',hv,dA⟩
 simp only[Value.slice.injEq]at hv
 obtain⟨rfl,rfl,rfl⟩:=hv
 refine Zao (Zlv s m4 (hC.mono cM)) ZgX ?_
 rintro a3 n1 c1 m5 eJ ⟨a',c',hv,iE⟩
 simp only[Value.slice.injEq]at hv
 obtain⟨rfl,rfl,rfl⟩:=hv
 have bL:=Zef s
 have rL:=Zpk s
 have qO:=hC.mono (mLt cM eJ)
 have kr:=mLt dY (mLt cM eJ)
 have gk:=dA.mono eJ
 have hw:∀k:Nat,k<=30000->IntKind.i64.wrap ((k:Int)+1)=((k+1:Nat):Int):=λk hk=>by rw[Zan (by omega) (by omega)];rfl
 refine⟨λxs _ _ m' q=>∃i:Nat,i<=s.problems.length/\xs=[.int .i64 i]/\q=s.problems.length - i,⟨s.problems.length,0,by omega,rfl,rfl⟩,?_⟩
 rintro y m6 q iv ⟨i,hi,hx,rfl⟩
 obtain rfl:y=i:=by simpa using hx
 have lV:=mLt kr iv
 refine ZaF (λbF=>?_) (λdC=>?_)
 ·have bF:(i:Int) < (s.problems.length:Int):=bF
  obtain⟨z,hz⟩:=Zb8 (show i < s.problems.length by omega)
  obtain⟨tV,tW,kb⟩:=Zlz (by rw[<-Zb4];exact List.mem_of_getElem? hz)
  obtain⟨b3,o3,ha,dO⟩:=Zav (cs:=Zkh) (n:=6) (λ_=>rfl) (gk.mono iv) hz (by omega)
  have gw:Zs3 z.1 s.places=true:=ZiX.2 tV
  have k5:=Zpj s.places a3 c1 z.1 m6 (by omega) (iE.mono iv)
  rw[gw]at k5
  refine⟨b3,o3,ha,⟨by omega,bF⟩,_,_,_,_,_,_,dO,λb4=>Zab rfl ⟨λ_ _ _=>Ret (.bool true),Zab rfl (ZfC (by show(z.2 == 0)=false;simpa using kb) ⟨_,rfl,k5,λv _ _ e=>by rw[show v=_ from e];rfl,λx m7 mt hx=>?_⟩)⟩⟩
  obtain rfl:x=true:=by simpa[Ret]using hx
  refine ZfC rfl (ZaF (λhg=>?_) (λhg M jn lr _=>⟨rfl,s.problems.length - (i+1),by omega,i+1,by omega,by rw[hw i (by omega)],rfl⟩))
  have hg:(i:Int) > 0:=hg
  obtain⟨u,hu⟩:=Zb8 (show i - 1 < s.problems.length by omega)
  have nV:IntKind.i64.wrap ((i:Int) - 1)=((i - 1:Nat):Int):=by rw[Zan (by omega) (by omega)];omega
  obtain⟨b5,o5,gO,ia⟩:=Zav (cs:=Zkh) (n:=6) (λ_=>rfl) (gk.mono (mLt iv mt)) hu (by omega)
  have qP:ZcK u.1 z.1=true:=by
   obtain⟨g1,g2⟩:=List.getElem?_eq_some_iff.1 hu
   obtain⟨g3,g4⟩:=List.getElem?_eq_some_iff.1 hz
   have:=(List.pairwise_iff_getElem.1 (Znl s)) (i - 1) i g1 g3 (by omega)
   rw[g2,g4]at this;exact this
  have hB:=ZsS u.1 z.1 m7
  rw[qP]at hB
  refine⟨b5,o5,gO,by rw[nV];exact⟨by omega,by omega⟩,.int .i64 u.1.v,.int .i64 u.1.s,.int .i64 u.1.r,.int .i64 u.1.a,.int .i64 u.1.p,?_,_,rfl,hB,λv _ _ e=>by rw[show v=_ from e];rfl,λx m8 iX hx M jn lr qL=>?_⟩
  ·rw[nV,Int.toNat_natCast];exact Zba ia 0 5
  ·obtain rfl:x=true:=by simpa[Ret]using hx
   exact ZfC rfl ⟨rfl,s.problems.length - (i+1),by omega,i+1,by omega,by rw[hw i (by omega)],rfl⟩
 ·refine⟨λxs _ _ m' q=>∃i:Nat,i<=s.places.length/\xs=[.int .i64 ((ZbX s (s.places.take i)).length:Nat),.int .i64 i]/\q=s.places.length - i,⟨s.places.length,0,by omega,rfl,rfl⟩,?_⟩
  rintro y w m7 q mt ⟨i,hi,hx,rfl⟩
  simp only[List.cons.injEq,Value.int.injEq,and_true,true_and]at hx
  obtain⟨rfl,rfl⟩:=hx
  have k7:=mLt iv mt
  have oP:=mLt kr k7
  have jX:(ZbX s (s.places.take i)).length<=20001:=by
   have h1:(ZbX s (s.places.take i)).length<=(s.places.take i).length:=List.length_filterMap_le _ _
   rw[List.length_take]at h1;omega
  refine ZaF (λbF=>?_) (λeY=>?_)
  ·have bF:(i:Int) < (s.places.length:Int):=bF
   obtain⟨p,hp⟩:=Zb8 (show i < s.places.length by omega)
   have gw:Zs3 p s.places=true:=ZiX.2 (List.mem_of_getElem? hp)
   obtain⟨b3,o3,ha,dO⟩:=Zav (cs:=Pl.cs) (n:=5) (λ_=>rfl) (iE.mono k7) hp (by omega)
   obtain⟨hA,hB⟩:=ZvX hp
   generalize hk:(ZbX s (s.places.take i)).length=k at hA hB jX
   refine⟨b3,o3,ha,⟨by omega,bF⟩,_,_,_,_,_,dO,λb4=>Zab rfl (Zao (ZxQ s p m7 (qO.mono k7)) (λv _ _ e=>by rw[show v=_ from e];rfl) ?_)⟩
   rintro e x m8 iX hv
   have hv:Value.tuple #[.int .i64 e,.bool x]=atV s p:=hv
   unfold atV at hv
   rw[gw]at hv
   simp only[if_true,Value.tuple.injEq,Array.mk.injEq,List.cons.injEq,Value.int.injEq,Value.bool.injEq,and_true,true_and]at hv
   obtain⟨rfl,rfl⟩:=hv
   have kX:=mLt oP iX
   refine ZfC rfl ?_
   by_cases h0:atS s p=0
   ·obtain⟨tX,tY⟩:=hB h0
    have dG:(!(atS s p == 0))=false:=by rw[h0];rfl
    have nx:[Value.int .i64 (k:Int),.int .i64 (IntKind.i64.wrap ((i:Int)+1))]=[.int .i64 ((ZbX s (s.places.take (i+1))).length:Nat),.int .i64 ((i+1:Nat):Int)]:=by rw[hw i (by omega),tY]
    refine ZaF (λfE=>?_) (λfE=>ZfC (by rw[dG];rfl) (ZfC dG (ZfC dG ⟨rfl,s.places.length - (i+1),by omega,i+1,by omega,nx,rfl⟩)))
    have fE:(k:Int) < (s.problems.length:Int):=fE
    obtain⟨z,hz⟩:=Zb8 (show k < s.problems.length by omega)
    obtain⟨b5,o5,gO,ia⟩:=Zav (cs:=Zkh) (n:=6) (λ_=>rfl) (gk.mono (mLt k7 iX)) hz (by omega)
    have k9:=ZsR z.1 p
    rw[decide_eq_false (tX z hz)]at k9
    exact⟨b5,o5,gO,⟨by omega,fE⟩,.int .i64 z.1.v,.int .i64 z.1.s,.int .i64 z.1.r,.int .i64 z.1.a,.int .i64 z.1.p,Zba ia 0 5,false,k9,ZfC (by rw[dG];rfl) (ZfC dG (ZfC dG ⟨rfl,s.places.length - (i+1),by omega,i+1,by omega,nx,rfl⟩))⟩
   ·obtain⟨rM,tZ⟩:=hA h0
    have dG:(!(atS s p == 0))=true:=by simp[h0]
    have nx:[Value.int .i64 (IntKind.i64.wrap ((k:Int)+1)),.int .i64 (IntKind.i64.wrap ((i:Int)+1))]=[.int .i64 ((ZbX s (s.places.take (i+1))).length:Nat),.int .i64 ((i+1:Nat):Int)]:=by rw[hw i (by omega),hw k (by omega),tZ]
    have t3:=(List.getElem?_eq_some_iff.1 rM).1
    refine ZaF (λfE=>?_) (λfE=>absurd (show(k:Int) < (s.problems.length:Int) by omega) fE)
    have fE:(k:Int) < (s.problems.length:Int):=fE
    obtain⟨b5,o5,gO,ia⟩:=Zav (cs:=Zkh) (n:=6) (λ_=>rfl) (gk.mono (mLt k7 iX)) rM (by omega)
    have k9:=ZsR p p
    rw[decide_eq_true rfl]at k9
    exact⟨b5,o5,gO,⟨by omega,fE⟩,.int .i64 p.v,.int .i64 p.s,.int .i64 p.r,.int .i64 p.a,.int .i64 p.p,Zba ia 0 5,true,k9,ZfC (by rw[dG];rfl) (ZnB dG ⟨b5,o5,gO,⟨by omega,fE⟩,.int .i64 (atS s p),ia 5 _ rfl,Zab rfl (ZfC (by show(!(atS s p == atS s p))=false;simp) (ZnB dG ⟨rfl,s.places.length - (i+1),by omega,i+1,by omega,nx,rfl⟩))⟩)⟩
  ·have eY:¬(i:Int) < (s.places.length:Int):=eY
   obtain rfl:i=s.places.length:=by omega
   have t4:(ZbX s (s.places.take s.places.length)).length=s.problems.length:=by rw[List.take_length,<-Zb4]
   rw[t4]
   have eV:s.check=match s.problems with
    | p::_=>p
    | []=>(top,0):=by unfold Sc.check;rw[hl,if_pos rfl];rfl
   refine Zao (Zlx s m7 (qO.mono k7)) (λv _ _ e=>by rw[show v=_ from e];rfl) ?_
   rintro n7 n8 n9 n10 n11 n12 m8 iX hv b3
   have kX:=mLt oP iX
   have hv:Value.tuple #[.agg #[.int .i64 n7,.int .i64 n8,.int .i64 n9,.int .i64 n10,.int .i64 n11],.int .i64 n12]=Zlw s.check:=hv
   simp only[Zlw,Pl.cs,Value.tuple.injEq,Value.agg.injEq,Array.mk.injEq,List.cons.injEq,Value.int.injEq,and_true,true_and]at hv
   obtain⟨⟨rfl,rfl,rfl,rfl,rfl⟩,rfl⟩:=hv
   have hR:=λM (hM:m7.le M)=>Zpg s M (qO.mono (mLt k7 hM))
   cases hL:s.problems with
   | nil=>
    rw[hL]at eV
    have h2:(s.check.2 == 0)=true:=by rw[eV];rfl
    refine ZnB rfl ⟨true,ZnB h2 (Zae (hR m8 iX) λm9 qk=>⟨rfl,Zag h2⟩),Zaa kX rfl⟩
   | cons z r=>
    rw[hL]at eV
    have hz:s.problems[0]?=some z:=by rw[hL];rfl
    obtain⟨_,tW,kb⟩:=Zlz (by rw[<-Zb4];exact List.mem_of_getElem? hz)
    have h2:(s.check.2 == 0)=false:=by rw[eV];show(z.2 == 0)=false;simpa using kb
    obtain⟨b5,o5,gO,ia⟩:=Zav (cs:=Zkh) (n:=6) (λ_=>rfl) (gk.mono (mLt k7 iX)) hz (by omega)
    have k9:=ZsR s.check.1 z.1
    rw[decide_eq_true (by rw[eV])]at k9
    have mo:=hR m8 iX
    rw[h2]at mo
    have l8:((((z::r).length:Nat):Int) == 0)=false:=by
     rw[List.length_cons];rw[beq_eq_false_iff_ne];omega
    refine ZfC l8 ⟨λ_ _ _=>Ret (.bool false),ZnB (by simp) ⟨b5,o5,gO,⟨by omega,by rw[List.length_cons];omega⟩,.int .i64 z.1.v,.int .i64 z.1.s,.int .i64 z.1.r,.int .i64 z.1.a,.int .i64 z.1.p,?_,true,k9,ZnB rfl ⟨b5,o5,gO,⟨by omega,by rw[List.length_cons];omega⟩,.int .i64 z.2,?_,Zab rfl (ZnB ?_ ⟨_,rfl,mo,λv _ _ e=>by rw[show v=_ from e];rfl,λx m9 qk hx M jn _=>?_⟩)⟩⟩⟩
    ·exact Zba ia 0 5
    ·exact ia 5 _ rfl
    ·show(s.check.2 == z.2)=true
     rw[eV];simp
    ·obtain rfl:x=false:=by simpa[Ret]using hx
     exact Zaa (mLt kX jn) rfl
end Go.Proofs.YtiadlgdcbpnmkaaGreatDoor
namespace Go.Proofs.YtiadlgdcbpnmkaaGreatDoor
open Go Go.Eng Go.Rx Go.Proofs Go.RowKit Go.ChangeShapes Go.WideShapes Go.ChangeAt
set_option maxRecDepth 100000
theorem ZtD{α:Type}{Zhy:α->List Value}{k:Nat}(hk:∀z,(Zhy z).length=k){m:Mem}{b:Nat}:∀{L:List α} {o:Nat},(∀i z,L[i]?=some z->m.reads b (o+i*k) (Zhy z))->m.reads b o (L.map Zhy).flatten
 | [],o,h=>λj v hj=>by simp at hj
 | x::L,o,h=>λj v hj=>by
  rw[List.map_cons,List.flatten_cons]at hj
  by_cases bF:j < k
  ·rw[List.getElem?_append_left (by rw[hk];exact bF)]at hj
   have:=h 0 x rfl j v hj
   rwa [Nat.zero_mul,Nat.add_zero]at this
  ·rw[List.getElem?_append_right (by rw[hk];omega),hk]at hj
   have:=ZtD hk (L:=L) (o:=o+k) (λi z hz=>by
    have:=h (i+1) z (by simpa using hz)
    rwa [show o+(i+1)*k=o+k+i*k by rw[Nat.succ_mul];omega]at this) (j - k) v hj
   rwa [show o+k+(j - k)=o+j by omega]at this
theorem ZtE{α:Type}{p:Nat->α->Prop}:∀n,(∀i,i < n->∃z,p i z)->∃L:List α,L.length=n/\∀i z,L[i]?=some z->p i z
 | 0,_=>⟨[],rfl,λi z h=>by simp at h⟩
 | n+1,h=>by
  obtain⟨L,hL,hp⟩:=ZtE n λi hi=>h i (by omega)
  obtain⟨z,hz⟩:=h n (by omega)
  refine⟨L++[z],by rw[List.length_append,hL];rfl,λi y hy=>?_⟩
  by_cases hi:i < n
  ·rw[List.getElem?_append_left (by omega)]at hy;exact hp i y hy
  ·have bF:=(List.getElem?_eq_some_iff.1 hy).1
   rw[List.length_append,hL]at bF
   have bF:i < n+1:=bF
   obtain rfl:i=n:=by omega
   rw[List.getElem?_append_right (by omega),hL,Nat.sub_self]at hy
   obtain rfl:z=y:=by simpa using hy
   exact hz
theorem ZxR{w:World}{a:Addr}{v:Value}(h:w.cell? (a.add 0)=some v):∃b o,a=⟨b,o,none⟩:=by
 obtain⟨b,o,sp⟩:=a
 cases sp with
 | none=>exact⟨b,o,rfl⟩
 | some s=>
  exfalso
  have e:(Addr.add ⟨b,o,some s⟩ 0)=⟨b,o,some s⟩:=rfl
  rw[e]at h
  unfold World.cell? at h
  split at h
  ·simp at h
  ·cases h
section
variable {H:Type} {enc:TypeId×Value->H} {W:World} {cC:Bool}
theorem Zrr{P:Program}{e:TypeId}:∀{l:List (DataW H)} {d:DataW H},d∈l->∀n∈d.weights P e,n∈DataW.weightsAll P e l
 | x::l,d,hd,n,hn=>by
  simp only[DataW.weightsAll,List.mem_append]
  rcases List.mem_cons.1 hd with rfl|hd
  ·exact .inl hn
  ·exact .inr (Zrr hd n hn)
theorem ZdJ{α:Type}{Zhy:α->List Value}{Q:α->Prop}{t e:TypeId}{k:Nat}(ht:Tryz.prog.underlying t=some (.slice e))(hc:Tryz.prog.cellsOf e=k)(hk:∀z,(Zhy z).length=k)(h0:0 < k)(hb:1<=Tryz.prog.bytesOf e){n:Nat}{cs:List Value}{x:DataW H×List MemPlace}
  (h:DataW.trod enc Tryz.prog W 0 (λ_=>true) cC n t cs=some x) (hw:∀w∈x.1.weights Tryz.prog t,w<=reachBytes)
  (ih:∀n',n' < n->∀(cs':List Value)(y:DataW H×List MemPlace),DataW.trod enc Tryz.prog W 0 (λ_=>true) cC n' e cs'=some y->(∀w∈y.1.weights Tryz.prog e,w<=reachBytes)->∃z,cs'=Zhy z/\Q z):
  ∃(L:List α)(a:Option Addr)(cap:Nat),cs=[.slice a L.length cap]/\L.length<=cap/\L.length<=1000000000000000/\rowRd (Zhi W) a (L.map Zhy).flatten/\∀z∈L,Q z:=by
 rcases DataW.trod_slice ht h with⟨q4,_⟩|⟨a,len,cap,elems,rest,n',hn',q4,hx,_,hl,hm,uy,ko,_⟩
 ·exact⟨[],none,0,q4,by simp,by simp,.inl rfl,by simp⟩
 rw[hx]at hw
 simp only[DataW.weights,ht,List.length_map]at hw
 have cD:=hw _ (List.mem_cons_self)
 have bL:len<=1000000000000000:=by
  have h2:=reachBytes_lt
  have h3:(elems.length+rest.length)*1<=(elems.length+rest.length)*Tryz.prog.bytesOf e:=Nat.mul_le_mul_left _ hb
  omega
 rw[hc]at ko
 obtain⟨L,hL,hp⟩:=ZtE (p:=λi z=>(∀j v,(Zhy z)[j]?=some v->W.cell? ((a.add (i*k)).add j)=some v)/\Q z) len (λi hi=>by
  have h1:=ko i hi
  rw[List.getElem?_eq_getElem (by omega)]at h1
  obtain⟨cs',h2,h3⟩:=Option.bind_eq_some_iff.1 h1
  obtain⟨_,nX,t5⟩:=World.cells?_some h2
  obtain⟨z,rfl,hz⟩:=ih n' (by omega) _ _ h3 (λw eC=>hw w (List.mem_cons_of_mem _ (List.mem_append_left _ (Zrr (List.mem_map.2 ⟨_,List.getElem_mem _,rfl⟩) w eC))))
  refine⟨z,λj v hj=>?_,hz⟩
  have bF:=(List.getElem?_eq_some_iff.1 hj).1
  rw[t5 j (by rw[nX]at bF;exact bF)];exact hj)
 refine⟨L,some a,cap,by rw[q4,hL],by omega,by omega,?_,λz hz=>?_⟩
 ·by_cases l8:len=0
  ·left
   obtain rfl:L=[]:=List.eq_nil_of_length_eq_zero (by omega)
   rfl
  ·right
   obtain⟨z,hz⟩:=Zb8 (show 0 < L.length by omega)
   have h1:=(hp 0 z hz).1
   obtain⟨u,hu⟩:=Zb8 (show 0 < (Zhy z).length by rw[hk];exact h0)
   have h2:=h1 0 u hu
   rw[Nat.zero_mul]at h2
   have e0:∀b:Addr,(b.add 0).add 0=b.add 0:=λb=>by
    obtain⟨x1,x2,x3⟩:=b
    cases x3 <;> rfl
   rw[e0]at h2
   obtain⟨b,o,rfl⟩:=ZxR h2
   refine⟨b,o,rfl,ZtD hk λi z hz j v hj=>?_⟩
   have:=(hp i z hz).1 j v hj
   rw[Zcr,Zcr]at this
   exact this
 ·obtain⟨i,hi⟩:=List.getElem?_of_mem hz
  exact(hp i z hi).2
end
theorem Zpo{m:Mem}{b:Nat}:∀{L:List E} {o:Nat},m.reads b o (L.map E.cs).flatten->(∀z∈L,RepE m z)->RepEAt m b o L
 | [],o,_,_=>by simp only[RepEAt]
 | x::L,o,h,ha=>by
  simp only[RepEAt]
  rw[List.map_cons,List.flatten_cons]at h
  refine⟨λj v hj=>h j v (by rw[List.getElem?_append_left (List.getElem?_eq_some_iff.1 hj).1];exact hj),ha x (by simp),Zpo (λj v hj=>?_) λz hz=>ha z (by simp[hz])⟩
  have:=h (5+j) v (by rw[List.getElem?_append_right (by show x.cs.length<=5+j;show 5<=5+j;omega)];show(L.map E.cs).flatten[5+j - 5]?=_;rw[show 5+j - 5=j by omega];exact hj)
  rwa [show o+(5+j)=o+5+j by omega]at this
theorem ZkV{m:Mem}{b:Nat}:∀{L:List T} {o:Nat},m.reads b o (L.map T.cs).flatten->(∀z∈L,Rep m z)->RepAt m b o L
 | [],o,_,_=>by simp only[RepAt]
 | x::L,o,h,ha=>by
  simp only[RepAt]
  rw[List.map_cons,List.flatten_cons]at h
  refine⟨λj v hj=>h j v (by rw[List.getElem?_append_left (List.getElem?_eq_some_iff.1 hj).1];exact hj),ha x (by simp),ZkV (λj v hj=>?_) λz hz=>ha z (by simp[hz])⟩
  have:=h (8+j) v (by rw[List.getElem?_append_right (by show x.cs.length<=8+j;show 8<=8+j;omega)];show(L.map T.cs).flatten[8+j - 8]?=_;rw[show 8+j - 8=j by omega];exact hj)
  rwa [show o+(8+j)=o+8+j by omega]at this
section
variable {H:Type} {enc:TypeId×Value->H} {W:World} {cC:Bool}
theorem ZiC{P:Program}{t:TypeId}{fuel:Nat}{cs:List Value}{x:DataW H×List MemPlace}(ht:P.underlying t=some (.float .f64))(h:DataW.trod enc P W 0 (λ_=>true) cC fuel t cs=some x):∃b:Nat,cs=[.float .f64 b]/\x=(.lit (.float .f64 b),[]):=by
 cases fuel with
 | zero=>simp[DataW.trod]at h
 | succ n=>
  unfold DataW.trod at h
  rw[ht]at h
  split at h <;> simp_all
theorem wu8{n:Int}(h:(Lit.int .u8 n).wf=true):0<=n/\n < 256:=by
 have:0<=n/\n<=255:=by simpa[Lit.wf,IntKind.min,IntKind.max,IntKind.signed,IntKind.bits]using h
 omega
theorem ZwQ{n:Int}(h:(Lit.int .i64 n).wf=true) : -9223372036854775808<=n/\n<=9223372036854775807:=by
 simpa[Lit.wf,IntKind.min,IntKind.max,IntKind.signed,IntKind.bits]using h
theorem Zws{P:Program}{t:TypeId}{s:ByteArray}(h:∀w∈(DataW.lit (H:=H) (.string s.data.toList)).weights P t,w<=reachBytes):s.size<=1000000000000000:=by
 have:=h s.data.toList.length (by simp[DataW.weights])
 have h2:=reachBytes_lt
 rw[Zd3]at this;omega
theorem Zrs:Tryz.prog.underlying 50=some (.struct #[⟨ "Kind",5,0,false, "", "",0⟩,⟨ "Number",47,1,false, "", "",8⟩,⟨ "Name",9,2,false, "", "",16⟩,⟨ "Capture",3,3,false, "", "",32⟩,⟨ "Subs",48,4,false, "", "",40⟩]):=by kernel_rfl
theorem Zpp:∀(n:Nat){cs:List Value}{x:DataW H×List MemPlace},DataW.trod enc Tryz.prog W 0 (λ_=>true) cC n 50 cs=some x->(∀w∈x.1.weights Tryz.prog 50,w<=reachBytes)->∃t:E,cs=t.cs/\RepE (Zhi W) t:=by
 intro n
 induction n using Nat.strongRecOn with
 | ind n ih=>
  intro cs x h hw
  obtain⟨xs,k,hk,dO,bL,eT,hx⟩:=DataW.trod_struct Zrs h
  have oO:Tryz.prog.cellsOf 50=5:=by kernel_rfl
  rw[oO]at bL
  obtain⟨c0,c1,c2,c3,c4,rfl⟩:∃a b c d e,cs=[a,b,c,d,e]:=by
   match cs,bL with
   | [a,b,c,d,e],_=>exact⟨a,b,c,d,e,rfl⟩
  obtain⟨z0,z1,z2,z3,z4,rfl⟩:∃a b c d e,xs=[a,b,c,d,e]:=by
   match xs,eT with
   | [a,b,c,d,e],_=>exact⟨a,b,c,d,e,rfl⟩
  rw[dO]at hw
  simp only[DataW.weights,Zrs]at hw
  have k0:Tryz.prog.cellsOf 5=1:=by kernel_rfl
  have k1:Tryz.prog.cellsOf 47=1:=by kernel_rfl
  have k2:Tryz.prog.cellsOf 9=1:=by kernel_rfl
  have k3:Tryz.prog.cellsOf 3=1:=by kernel_rfl
  have k4:Tryz.prog.cellsOf 48=1:=by kernel_rfl
  have g0:DataW.trod enc Tryz.prog W 0 (λ_=>true) cC k 5 (List.take (Tryz.prog.cellsOf 5) (List.drop 0 [c0,c1,c2,c3,c4]))=some z0:=hx 0 _ rfl
  have g1:DataW.trod enc Tryz.prog W 0 (λ_=>true) cC k 47 (List.take (Tryz.prog.cellsOf 47) (List.drop 1 [c0,c1,c2,c3,c4]))=some z1:=hx 1 _ rfl
  have g2:DataW.trod enc Tryz.prog W 0 (λ_=>true) cC k 9 (List.take (Tryz.prog.cellsOf 9) (List.drop 2 [c0,c1,c2,c3,c4]))=some z2:=hx 2 _ rfl
  have g3:DataW.trod enc Tryz.prog W 0 (λ_=>true) cC k 3 (List.take (Tryz.prog.cellsOf 3) (List.drop 3 [c0,c1,c2,c3,c4]))=some z3:=hx 3 _ rfl
  have g4:DataW.trod enc Tryz.prog W 0 (λ_=>true) cC k 48 (List.take (Tryz.prog.cellsOf 48) (List.drop 4 [c0,c1,c2,c3,c4]))=some z4:=hx 4 _ rfl
  rw[k0]at g0
  rw[k1]at g1
  rw[k2]at g2
  rw[k3]at g3
  rw[k4]at g4
  obtain⟨kk,q0,_,w0⟩:=DataW.trod_int Tryz.underlying5 g0
  obtain⟨fx,q1,_⟩:=ZiC (by kernel_rfl) g1
  obtain⟨st,q2,e2,_⟩:=DataW.trod_string (by kernel_rfl) g2
  obtain⟨cp,q3,_,w3⟩:=DataW.trod_int Tryz.underlying3 g3
  have dP:st.size<=1000000000000000:=Zws (P:=Tryz.prog) (t:=9) (H:=H) λw eC=>hw w (DataW.weights_mem_each (j:=2) (t:=9) rfl rfl w (by rw[e2];exact eC))
  obtain⟨L,a,cap,q4,rN,kH,dA,cB⟩:=ZdJ (Zhy:=E.cs) (Q:=RepE (Zhi W)) (k:=5) (by kernel_rfl) oO (λ_=>rfl) (by decide) (of_decide_eq_true (by kernel_rfl)) g4 (λw eC=>hw w (DataW.weights_mem_each (j:=4) (t:=48) rfl rfl w eC)) λn' hn' cs' y hy jg=>ih n' (by omega) hy jg
  simp only[List.drop,List.take,List.cons.injEq,and_true]at q0 q1 q2 q3 q4
  subst q0 q1 q2 q3 q4
  refine⟨.node kk fx st cp a cap L,rfl,?_⟩
  simp only[RepE]
  refine⟨kH,?_,⟨wu8 w0,dP,ZwQ w3⟩⟩
  rcases dA with h0|⟨b,o,ha,hr⟩
  ·left
   cases L with
   | nil=>rfl
   | cons y L=>simp[E.cs]at h0
  ·exact .inr ⟨b,o,ha,Zpo hr cB⟩
theorem ZxS{n:Int}(h:(Lit.int .u64 n).wf=true):0<=n/\n < 18446744073709551616:=by
 have:0<=n/\n<=18446744073709551615:=by simpa[Lit.wf,IntKind.min,IntKind.max,IntKind.signed,IntKind.bits]using h
 omega
theorem Zqz{n:Nat}{c0 c1 c2 c3:Value}{x:DataW H×List MemPlace}(h:DataW.trod enc Tryz.prog W 0 (λ_=>true) cC n 60 [c0,c1,c2,c3]=some x):∃s0 s1 s2 s3,c0=.int .u64 s0/\c1=.int .u64 s1/\c2=.int .u64 s2/\c3=.int .u64 s3/\(0<=s0/\s0 < 18446744073709551616)/\(0<=s1/\s1 < 18446744073709551616)/\(0<=s2/\s2 < 18446744073709551616)/\(0<=s3/\s3 < 18446744073709551616):=by
 obtain⟨y0,y1,y2,y3,n',_,h0,h1,h2,h3⟩:=trod_array4 Tryz.underlying60 (by kernel_rfl) h
 obtain⟨n0,k0,_,w0⟩:=DataW.trod_int Tryz.underlying58 h0
 obtain⟨n1,k1,_,w1⟩:=DataW.trod_int Tryz.underlying58 h1
 obtain⟨n2,k2,_,w2⟩:=DataW.trod_int Tryz.underlying58 h2
 obtain⟨n3,k3,_,w3⟩:=DataW.trod_int Tryz.underlying58 h3
 simp at k0 k1 k2 k3
 exact⟨n0,n1,n2,n3,k0,k1,k2,k3,ZxS w0,ZxS w1,ZxS w2,ZxS w3⟩
theorem Zmk:Tryz.prog.underlying 63=some (.struct #[⟨ "Kind",5,0,false, "", "",0⟩,⟨ "Set",60,1,false, "", "",8⟩,⟨ "Min",3,5,false, "", "",40⟩,⟨ "Max",3,6,false, "", "",48⟩,⟨ "Subs",61,7,false, "", "",56⟩]):=by kernel_rfl
theorem ZsV:∀(n:Nat){cs:List Value}{x:DataW H×List MemPlace},DataW.trod enc Tryz.prog W 0 (λ_=>true) cC n 63 cs=some x->(∀w∈x.1.weights Tryz.prog 63,w<=reachBytes)->∃t:T,cs=t.cs/\Rep (Zhi W) t:=by
 intro n
 induction n using Nat.strongRecOn with
 | ind n ih=>
  intro cs x h hw
  obtain⟨xs,k,hk,dO,bL,eT,hx⟩:=DataW.trod_struct Zmk h
  rw[dO]at hw
  simp only[DataW.weights,Zmk]at hw
  have rO:Tryz.prog.cellsOf 63=8:=by kernel_rfl
  rw[rO]at bL
  obtain⟨c0,c1,c2,c3,c4,c5,c6,c7,rfl⟩:∃a b c d e f g h,cs=[a,b,c,d,e,f,g,h]:=by
   match cs,bL with
   | [a,b,c,d,e,f,g,h],_=>exact⟨a,b,c,d,e,f,g,h,rfl⟩
  obtain⟨z0,z1,z2,z3,z4,rfl⟩:∃a b c d e,xs=[a,b,c,d,e]:=by
   match xs,eT with
   | [a,b,c,d,e],_=>exact⟨a,b,c,d,e,rfl⟩
  have k0:Tryz.prog.cellsOf 5=1:=by kernel_rfl
  have k1:Tryz.prog.cellsOf 60=4:=by kernel_rfl
  have k2:Tryz.prog.cellsOf 3=1:=by kernel_rfl
  have k4:Tryz.prog.cellsOf 61=1:=by kernel_rfl
  have g0:DataW.trod enc Tryz.prog W 0 (λ_=>true) cC k 5 (List.take (Tryz.prog.cellsOf 5) (List.drop 0 [c0,c1,c2,c3,c4,c5,c6,c7]))=some z0:=hx 0 _ rfl
  have g1:DataW.trod enc Tryz.prog W 0 (λ_=>true) cC k 60 (List.take (Tryz.prog.cellsOf 60) (List.drop 1 [c0,c1,c2,c3,c4,c5,c6,c7]))=some z1:=hx 1 _ rfl
  have g2:DataW.trod enc Tryz.prog W 0 (λ_=>true) cC k 3 (List.take (Tryz.prog.cellsOf 3) (List.drop 5 [c0,c1,c2,c3,c4,c5,c6,c7]))=some z2:=hx 2 _ rfl
  have g3:DataW.trod enc Tryz.prog W 0 (λ_=>true) cC k 3 (List.take (Tryz.prog.cellsOf 3) (List.drop 6 [c0,c1,c2,c3,c4,c5,c6,c7]))=some z3:=hx 3 _ rfl
  have g4:DataW.trod enc Tryz.prog W 0 (λ_=>true) cC k 61 (List.take (Tryz.prog.cellsOf 61) (List.drop 7 [c0,c1,c2,c3,c4,c5,c6,c7]))=some z4:=hx 4 _ rfl
  rw[k0]at g0
  rw[k1]at g1
  rw[k2]at g2 g3
  rw[k4]at g4
  replace g0:DataW.trod enc Tryz.prog W 0 (λ_=>true) cC k 5 [c0]=some z0:=g0
  replace g1:DataW.trod enc Tryz.prog W 0 (λ_=>true) cC k 60 [c1,c2,c3,c4]=some z1:=g1
  replace g2:DataW.trod enc Tryz.prog W 0 (λ_=>true) cC k 3 [c5]=some z2:=g2
  replace g3:DataW.trod enc Tryz.prog W 0 (λ_=>true) cC k 3 [c6]=some z3:=g3
  replace g4:DataW.trod enc Tryz.prog W 0 (λ_=>true) cC k 61 [c7]=some z4:=g4
  obtain⟨kk,q0,_,w0⟩:=DataW.trod_int Tryz.underlying5 g0
  obtain⟨s0,s1,s2,s3,rfl,rfl,rfl,rfl,o0,o1,o2,o3⟩:=Zqz g1
  obtain⟨mn,q2,_,w2⟩:=DataW.trod_int Tryz.underlying3 g2
  obtain⟨mx,q3,_,w3⟩:=DataW.trod_int Tryz.underlying3 g3
  simp only[List.cons.injEq,and_true]at q0 q2 q3
  subst q0 q2 q3
  have ok:OkN kk s0 s1 s2 s3 mn mx:=⟨wu8 w0,o0,o1,o2,o3,ZwQ w2,ZwQ w3⟩
  obtain⟨L,a,cap,q4,rN,kH,dA,cB⟩:=ZdJ (Zhy:=T.cs) (Q:=Rep (Zhi W)) (k:=8) (by kernel_rfl) rO (λ_=>rfl) (by decide) (of_decide_eq_true (by kernel_rfl)) g4 (λw eC=>hw w (DataW.weights_mem_each (j:=4) (t:=61) rfl rfl w eC)) λn' hn' cs' y hy jg=>ih n' (by omega) hy jg
  simp only[List.cons.injEq,and_true]at q4
  subst q4
  refine⟨.node kk s0 s1 s2 s3 mn mx a cap L,rfl,?_⟩
  simp only[Rep]
  refine⟨kH,?_,ok⟩
  rcases dA with h0|⟨b,o,ha,hr⟩
  ·left
   cases L with
   | nil=>rfl
   | cons y L=>simp[T.cs]at h0
  ·exact .inr ⟨b,o,ha,ZkV hr cB⟩
end
section
variable {H:Type} {enc:TypeId×Value->H} {W:World} {cC:Bool}
theorem ZtF:Tryz.prog.underlying 56=some (.struct #[⟨ "Kind",5,0,false, "", "",0⟩,⟨ "Text",9,1,false, "", "",8⟩,⟨ "Group",3,2,false, "", "",24⟩,⟨ "Expr",50,3,false, "", "",32⟩]):=by kernel_rfl
theorem ZsW(n:Nat)(cs:List Value)(x:DataW H×List MemPlace)(h:DataW.trod enc Tryz.prog W 0 (λ_=>true) cC n 56 cs=some x)(hw:∀w∈x.1.weights Tryz.prog 56,w<=reachBytes):∃p:Pt,cs=p.cs/\RepP (Zhi W) p:=by
 obtain⟨xs,k,hk,dO,bL,eT,hx⟩:=DataW.trod_struct ZtF h
 have hc:Tryz.prog.cellsOf 56=8:=by kernel_rfl
 rw[hc]at bL
 obtain⟨c0,c1,c2,c3,c4,c5,c6,c7,rfl⟩:∃a b c d e f g h,cs=[a,b,c,d,e,f,g,h]:=by
  match cs,bL with
  | [a,b,c,d,e,f,g,h],_=>exact⟨a,b,c,d,e,f,g,h,rfl⟩
 obtain⟨z0,z1,z2,z3,rfl⟩:∃a b c d,xs=[a,b,c,d]:=by
  match xs,eT with
  | [a,b,c,d],_=>exact⟨a,b,c,d,rfl⟩
 rw[dO]at hw
 simp only[DataW.weights,ZtF]at hw
 have k0:Tryz.prog.cellsOf 5=1:=by kernel_rfl
 have k1:Tryz.prog.cellsOf 9=1:=by kernel_rfl
 have k2:Tryz.prog.cellsOf 3=1:=by kernel_rfl
 have k3:Tryz.prog.cellsOf 50=5:=by kernel_rfl
 have g0:DataW.trod enc Tryz.prog W 0 (λ_=>true) cC k 5 (List.take (Tryz.prog.cellsOf 5) (List.drop 0 [c0,c1,c2,c3,c4,c5,c6,c7]))=some z0:=hx 0 _ rfl
 have g1:DataW.trod enc Tryz.prog W 0 (λ_=>true) cC k 9 (List.take (Tryz.prog.cellsOf 9) (List.drop 1 [c0,c1,c2,c3,c4,c5,c6,c7]))=some z1:=hx 1 _ rfl
 have g2:DataW.trod enc Tryz.prog W 0 (λ_=>true) cC k 3 (List.take (Tryz.prog.cellsOf 3) (List.drop 2 [c0,c1,c2,c3,c4,c5,c6,c7]))=some z2:=hx 2 _ rfl
 have g3:DataW.trod enc Tryz.prog W 0 (λ_=>true) cC k 50 (List.take (Tryz.prog.cellsOf 50) (List.drop 3 [c0,c1,c2,c3,c4,c5,c6,c7]))=some z3:=hx 3 _ rfl
 rw[k0]at g0
 rw[k1]at g1
 rw[k2]at g2
 rw[k3]at g3
 obtain⟨kk,q0,_,w0⟩:=DataW.trod_int Tryz.underlying5 g0
 obtain⟨st,q1,e1,_⟩:=DataW.trod_string (by kernel_rfl) g1
 obtain⟨gr,q2,_,w2⟩:=DataW.trod_int Tryz.underlying3 g2
 obtain⟨t,q3,ht⟩:=Zpp _ g3 (λw eC=>hw w (DataW.weights_mem_each (j:=3) (t:=50) rfl rfl w eC))
 have dP:st.size<=1000000000000000:=Zws (P:=Tryz.prog) (t:=9) (H:=H) λw eC=>hw w (DataW.weights_mem_each (j:=1) (t:=9) rfl rfl w (by rw[e1];exact eC))
 simp only[List.drop,List.take,E.cs,List.cons.injEq,and_true]at q0 q1 q2 q3
 obtain⟨rfl,rfl,rfl,rfl,rfl⟩:=q3
 subst q0 q1 q2
 exact⟨⟨kk,st,gr,t⟩,rfl,⟨wu8 w0,dP,ZwQ w2,ht⟩⟩
theorem ZvY:Tryz.prog.underlying 53=some (.struct #[⟨ "Kind",5,0,false, "", "",0⟩,⟨ "Name",9,1,false, "", "",8⟩,⟨ "Parts",51,2,false, "", "",24⟩,⟨ "Expr",50,3,false, "", "",48⟩]):=by kernel_rfl
theorem ZuA(n:Nat)(cs:List Value)(x:DataW H×List MemPlace)(h:DataW.trod enc Tryz.prog W 0 (λ_=>true) cC n 53 cs=some x)(hw:∀w∈x.1.weights Tryz.prog 53,w<=reachBytes):∃p:Ac,cs=p.cs/\RepAw (Zhi W) p:=by
 obtain⟨xs,k,hk,dO,bL,eT,hx⟩:=DataW.trod_struct ZvY h
 have hc:Tryz.prog.cellsOf 53=8:=by kernel_rfl
 rw[hc]at bL
 obtain⟨c0,c1,c2,c3,c4,c5,c6,c7,rfl⟩:∃a b c d e f g h,cs=[a,b,c,d,e,f,g,h]:=by
  match cs,bL with
  | [a,b,c,d,e,f,g,h],_=>exact⟨a,b,c,d,e,f,g,h,rfl⟩
 obtain⟨z0,z1,z2,z3,rfl⟩:∃a b c d,xs=[a,b,c,d]:=by
  match xs,eT with
  | [a,b,c,d],_=>exact⟨a,b,c,d,rfl⟩
 rw[dO]at hw
 simp only[DataW.weights,ZvY]at hw
 have k0:Tryz.prog.cellsOf 5=1:=by kernel_rfl
 have k1:Tryz.prog.cellsOf 9=1:=by kernel_rfl
 have k2:Tryz.prog.cellsOf 51=1:=by kernel_rfl
 have k3:Tryz.prog.cellsOf 50=5:=by kernel_rfl
 have g0:DataW.trod enc Tryz.prog W 0 (λ_=>true) cC k 5 (List.take (Tryz.prog.cellsOf 5) (List.drop 0 [c0,c1,c2,c3,c4,c5,c6,c7]))=some z0:=hx 0 _ rfl
 have g1:DataW.trod enc Tryz.prog W 0 (λ_=>true) cC k 9 (List.take (Tryz.prog.cellsOf 9) (List.drop 1 [c0,c1,c2,c3,c4,c5,c6,c7]))=some z1:=hx 1 _ rfl
 have g2:DataW.trod enc Tryz.prog W 0 (λ_=>true) cC k 51 (List.take (Tryz.prog.cellsOf 51) (List.drop 2 [c0,c1,c2,c3,c4,c5,c6,c7]))=some z2:=hx 2 _ rfl
 have g3:DataW.trod enc Tryz.prog W 0 (λ_=>true) cC k 50 (List.take (Tryz.prog.cellsOf 50) (List.drop 3 [c0,c1,c2,c3,c4,c5,c6,c7]))=some z3:=hx 3 _ rfl
 rw[k0]at g0
 rw[k1]at g1
 rw[k2]at g2
 rw[k3]at g3
 obtain⟨kk,q0,_,w0⟩:=DataW.trod_int Tryz.underlying5 g0
 obtain⟨st,q1,e1,_⟩:=DataW.trod_string (by kernel_rfl) g1
 obtain⟨L,a,cap,q2,rN,kH,dA,cB⟩:=ZdJ (Zhy:=Pt.cs) (Q:=RepP (Zhi W)) (k:=8) (by kernel_rfl) (by kernel_rfl) (λ_=>rfl) (by decide) (of_decide_eq_true (by kernel_rfl)) g2 (λw eC=>hw w (DataW.weights_mem_each (j:=2) (t:=51) rfl rfl w eC)) λn' _ cs' y hy jg=>ZsW n' cs' y hy jg
 obtain⟨t,q3,ht⟩:=Zpp _ g3 (λw eC=>hw w (DataW.weights_mem_each (j:=3) (t:=50) rfl rfl w eC))
 have dP:st.size<=1000000000000000:=Zws (P:=Tryz.prog) (t:=9) (H:=H) λw eC=>hw w (DataW.weights_mem_each (j:=1) (t:=9) rfl rfl w (by rw[e1];exact eC))
 simp only[List.drop,List.take,E.cs,List.cons.injEq,and_true]at q0 q1 q2 q3
 obtain⟨rfl,rfl,rfl,rfl,rfl⟩:=q3
 subst q0 q1 q2
 exact⟨⟨kk,st,a,cap,L,t⟩,rfl,⟨wu8 w0,dP,kH,dA,cB,ht⟩⟩
def rgC(bg en:Bool)(t:T):List Value:=[.bool bg,.bool en,.int .u8 t.k,.int .u64 t.s0,.int .u64 t.s1,.int .u64 t.s2,.int .u64 t.s3,.int .i64 t.mn,.int .i64 t.mx,.slice t.a t.subs.length t.c]
theorem ZvZ:Tryz.prog.underlying 65=some (.struct #[⟨ "Begin",4,0,false, "", "",0⟩,⟨ "End",4,1,false, "", "",1⟩,⟨ "Root",63,2,false, "", "",8⟩]):=by kernel_rfl
theorem ZuB(n:Nat)(cs:List Value)(x:DataW H×List MemPlace)(h:DataW.trod enc Tryz.prog W 0 (λ_=>true) cC n 65 cs=some x)(hw:∀w∈x.1.weights Tryz.prog 65,w<=reachBytes):∃(bg en:Bool)(t:T),cs=rgC bg en t/\Rep (Zhi W) t:=by
 obtain⟨xs,k,hk,dO,bL,eT,hx⟩:=DataW.trod_struct ZvZ h
 have hc:Tryz.prog.cellsOf 65=10:=by kernel_rfl
 rw[hc]at bL
 obtain⟨c0,c1,c2,c3,c4,c5,c6,c7,c8,c9,rfl⟩:∃c0 c1 c2 c3 c4 c5 c6 c7 c8 c9,cs=[c0,c1,c2,c3,c4,c5,c6,c7,c8,c9]:=by
  match cs,bL with
  | [c0,c1,c2,c3,c4,c5,c6,c7,c8,c9],_=>exact⟨c0,c1,c2,c3,c4,c5,c6,c7,c8,c9,rfl⟩
 obtain⟨z0,z1,z2,rfl⟩:∃z0 z1 z2,xs=[z0,z1,z2]:=by
  match xs,eT with
  | [z0,z1,z2],_=>exact⟨z0,z1,z2,rfl⟩
 rw[dO]at hw
 simp only[DataW.weights,ZvZ]at hw
 have g0:DataW.trod enc Tryz.prog W 0 (λ_=>true) cC k 4 (List.take (Tryz.prog.cellsOf 4) (List.drop 0 [c0,c1,c2,c3,c4,c5,c6,c7,c8,c9]))=some z0:=hx 0 _ rfl
 rw[show Tryz.prog.cellsOf 4=1 by kernel_rfl]at g0
 obtain⟨bg,q0,_⟩:=DataW.trod_bool (by kernel_rfl) g0
 have g1:DataW.trod enc Tryz.prog W 0 (λ_=>true) cC k 4 (List.take (Tryz.prog.cellsOf 4) (List.drop 1 [c0,c1,c2,c3,c4,c5,c6,c7,c8,c9]))=some z1:=hx 1 _ rfl
 rw[show Tryz.prog.cellsOf 4=1 by kernel_rfl]at g1
 obtain⟨en,q1,_⟩:=DataW.trod_bool (by kernel_rfl) g1
 have g2:DataW.trod enc Tryz.prog W 0 (λ_=>true) cC k 63 (List.take (Tryz.prog.cellsOf 63) (List.drop 2 [c0,c1,c2,c3,c4,c5,c6,c7,c8,c9]))=some z2:=hx 2 _ rfl
 rw[show Tryz.prog.cellsOf 63=8 by kernel_rfl]at g2
 obtain⟨t,q2,r2⟩:=ZsV _ g2 (λw eC=>hw w (DataW.weights_mem_each (j:=2) (t:=63) rfl rfl w eC))
 simp only[List.drop,List.take,List.cons.injEq,and_true]at q0 q1 q2
 subst q0
 subst q1
 simp only[T.cs,T.sl,List.cons.injEq,and_true]at q2
 obtain⟨rfl,rfl,rfl,rfl,rfl,rfl,rfl,rfl⟩:=q2
 exact⟨bg,en,t,rfl,r2⟩
theorem ZtG:Tryz.prog.underlying 67=some (.struct #[⟨ "Kind",5,0,false, "", "",0⟩,⟨ "Regex",65,1,false, "", "",8⟩,⟨ "Text",9,11,false, "", "",96⟩,⟨ "Ticks",3,12,false, "", "",112⟩,⟨ "Actions",54,13,false, "", "",120⟩,⟨ "Goto",9,14,false, "", "",144⟩,⟨ "Code",3,15,false, "", "",160⟩]):=by kernel_rfl
theorem ZsX(n:Nat)(cs:List Value)(x:DataW H×List MemPlace)(h:DataW.trod enc Tryz.prog W 0 (λ_=>true) cC n 67 cs=some x)(hw:∀w∈x.1.weights Tryz.prog 67,w<=reachBytes):∃p:Ru,cs=p.cs/\RepRw (Zhi W) p:=by
 obtain⟨xs,k,hk,dO,bL,eT,hx⟩:=DataW.trod_struct ZtG h
 have hc:Tryz.prog.cellsOf 67=16:=by kernel_rfl
 rw[hc]at bL
 obtain⟨c0,c1,c2,c3,c4,c5,c6,c7,c8,c9,c10,c11,c12,c13,c14,c15,rfl⟩:∃c0 c1 c2 c3 c4 c5 c6 c7 c8 c9 c10 c11 c12 c13 c14 c15,cs=[c0,c1,c2,c3,c4,c5,c6,c7,c8,c9,c10,c11,c12,c13,c14,c15]:=by
  match cs,bL with
  | [c0,c1,c2,c3,c4,c5,c6,c7,c8,c9,c10,c11,c12,c13,c14,c15],_=>exact⟨c0,c1,c2,c3,c4,c5,c6,c7,c8,c9,c10,c11,c12,c13,c14,c15,rfl⟩
 obtain⟨z0,z1,z2,z3,z4,z5,z6,rfl⟩:∃z0 z1 z2 z3 z4 z5 z6,xs=[z0,z1,z2,z3,z4,z5,z6]:=by
  match xs,eT with
  | [z0,z1,z2,z3,z4,z5,z6],_=>exact⟨z0,z1,z2,z3,z4,z5,z6,rfl⟩
 rw[dO]at hw
 simp only[DataW.weights,ZtG]at hw
 have g0:DataW.trod enc Tryz.prog W 0 (λ_=>true) cC k 5 (List.take (Tryz.prog.cellsOf 5) (List.drop 0 [c0,c1,c2,c3,c4,c5,c6,c7,c8,c9,c10,c11,c12,c13,c14,c15]))=some z0:=hx 0 _ rfl
 rw[show Tryz.prog.cellsOf 5=1 by kernel_rfl]at g0
 obtain⟨kk,q0,_,w0⟩:=DataW.trod_int Tryz.underlying5 g0
 have g1:DataW.trod enc Tryz.prog W 0 (λ_=>true) cC k 65 (List.take (Tryz.prog.cellsOf 65) (List.drop 1 [c0,c1,c2,c3,c4,c5,c6,c7,c8,c9,c10,c11,c12,c13,c14,c15]))=some z1:=hx 1 _ rfl
 rw[show Tryz.prog.cellsOf 65=10 by kernel_rfl]at g1
 obtain⟨bg,en,t,q1,r1⟩:=ZuB _ _ _ g1 (λw eC=>hw w (DataW.weights_mem_each (j:=1) (t:=65) rfl rfl w eC))
 have g2:DataW.trod enc Tryz.prog W 0 (λ_=>true) cC k 9 (List.take (Tryz.prog.cellsOf 9) (List.drop 11 [c0,c1,c2,c3,c4,c5,c6,c7,c8,c9,c10,c11,c12,c13,c14,c15]))=some z2:=hx 2 _ rfl
 rw[show Tryz.prog.cellsOf 9=1 by kernel_rfl]at g2
 obtain⟨st,q2,e2,_⟩:=DataW.trod_string (by kernel_rfl) g2
 have dP:st.size<=1000000000000000:=Zws (P:=Tryz.prog) (t:=9) (H:=H) λw eC=>hw w (DataW.weights_mem_each (j:=2) (t:=9) rfl rfl w (by rw[e2];exact eC))
 have g3:DataW.trod enc Tryz.prog W 0 (λ_=>true) cC k 3 (List.take (Tryz.prog.cellsOf 3) (List.drop 12 [c0,c1,c2,c3,c4,c5,c6,c7,c8,c9,c10,c11,c12,c13,c14,c15]))=some z3:=hx 3 _ rfl
 rw[show Tryz.prog.cellsOf 3=1 by kernel_rfl]at g3
 obtain⟨tk,q3,_,w3⟩:=DataW.trod_int Tryz.underlying3 g3
 have g4:DataW.trod enc Tryz.prog W 0 (λ_=>true) cC k 54 (List.take (Tryz.prog.cellsOf 54) (List.drop 13 [c0,c1,c2,c3,c4,c5,c6,c7,c8,c9,c10,c11,c12,c13,c14,c15]))=some z4:=hx 4 _ rfl
 rw[show Tryz.prog.cellsOf 54=1 by kernel_rfl]at g4
 obtain⟨L4,a4,cap4,q4,t6,qQ,nY,nZ⟩:=ZdJ (Zhy:=Ac.cs) (Q:=RepAw (Zhi W)) (k:=8) (by kernel_rfl) (by kernel_rfl) (λ_=>rfl) (by decide) (of_decide_eq_true (by kernel_rfl)) g4 (λw eC=>hw w (DataW.weights_mem_each (j:=4) (t:=54) rfl rfl w eC)) λn' _ cs' y hy jg=>ZuA n' cs' y hy jg
 have g5:DataW.trod enc Tryz.prog W 0 (λ_=>true) cC k 9 (List.take (Tryz.prog.cellsOf 9) (List.drop 14 [c0,c1,c2,c3,c4,c5,c6,c7,c8,c9,c10,c11,c12,c13,c14,c15]))=some z5:=hx 5 _ rfl
 rw[show Tryz.prog.cellsOf 9=1 by kernel_rfl]at g5
 obtain⟨go,q5,e5,_⟩:=DataW.trod_string (by kernel_rfl) g5
 have t7:go.size<=1000000000000000:=Zws (P:=Tryz.prog) (t:=9) (H:=H) λw eC=>hw w (DataW.weights_mem_each (j:=5) (t:=9) rfl rfl w (by rw[e5];exact eC))
 have g6:DataW.trod enc Tryz.prog W 0 (λ_=>true) cC k 3 (List.take (Tryz.prog.cellsOf 3) (List.drop 15 [c0,c1,c2,c3,c4,c5,c6,c7,c8,c9,c10,c11,c12,c13,c14,c15]))=some z6:=hx 6 _ rfl
 rw[show Tryz.prog.cellsOf 3=1 by kernel_rfl]at g6
 obtain⟨cd,q6,_,w6⟩:=DataW.trod_int Tryz.underlying3 g6
 simp only[List.drop,List.take,List.cons.injEq,and_true]at q0 q1 q2 q3 q4 q5 q6
 subst q0
 simp only[rgC,List.cons.injEq,and_true]at q1
 obtain⟨rfl,rfl,rfl,rfl,rfl,rfl,rfl,rfl,rfl,rfl⟩:=q1
 subst q2
 subst q3
 subst q4
 subst q5
 subst q6
 exact⟨⟨kk,bg,en,t,st,tk,a4,cap4,L4,go,cd⟩,rfl,⟨wu8 w0,r1,dP,ZwQ w3,qQ,nY,nZ,t7,ZwQ w6⟩⟩
theorem Zrt:Tryz.prog.underlying 70=some (.struct #[⟨ "Name",9,0,false, "", "",0⟩,⟨ "Rules",68,1,false, "", "",16⟩]):=by kernel_rfl
theorem ZqA(n:Nat)(cs:List Value)(x:DataW H×List MemPlace)(h:DataW.trod enc Tryz.prog W 0 (λ_=>true) cC n 70 cs=some x)(hw:∀w∈x.1.weights Tryz.prog 70,w<=reachBytes):∃p:Sta,cs=p.cs/\RepSw (Zhi W) p:=by
 obtain⟨xs,k,hk,dO,bL,eT,hx⟩:=DataW.trod_struct Zrt h
 have hc:Tryz.prog.cellsOf 70=2:=by kernel_rfl
 rw[hc]at bL
 obtain⟨c0,c1,rfl⟩:∃c0 c1,cs=[c0,c1]:=by
  match cs,bL with
  | [c0,c1],_=>exact⟨c0,c1,rfl⟩
 obtain⟨z0,z1,rfl⟩:∃z0 z1,xs=[z0,z1]:=by
  match xs,eT with
  | [z0,z1],_=>exact⟨z0,z1,rfl⟩
 rw[dO]at hw
 simp only[DataW.weights,Zrt]at hw
 have g0:DataW.trod enc Tryz.prog W 0 (λ_=>true) cC k 9 (List.take (Tryz.prog.cellsOf 9) (List.drop 0 [c0,c1]))=some z0:=hx 0 _ rfl
 rw[show Tryz.prog.cellsOf 9=1 by kernel_rfl]at g0
 obtain⟨st,q0,e0,_⟩:=DataW.trod_string (by kernel_rfl) g0
 have dP:st.size<=1000000000000000:=Zws (P:=Tryz.prog) (t:=9) (H:=H) λw eC=>hw w (DataW.weights_mem_each (j:=0) (t:=9) rfl rfl w (by rw[e0];exact eC))
 have g1:DataW.trod enc Tryz.prog W 0 (λ_=>true) cC k 68 (List.take (Tryz.prog.cellsOf 68) (List.drop 1 [c0,c1]))=some z1:=hx 1 _ rfl
 rw[show Tryz.prog.cellsOf 68=1 by kernel_rfl]at g1
 obtain⟨L1,a1,cap1,q1,oa,lZ,jU,jV⟩:=ZdJ (Zhy:=Ru.cs) (Q:=RepRw (Zhi W)) (k:=16) (by kernel_rfl) (by kernel_rfl) (λ_=>rfl) (by decide) (of_decide_eq_true (by kernel_rfl)) g1 (λw eC=>hw w (DataW.weights_mem_each (j:=1) (t:=68) rfl rfl w eC)) λn' _ cs' y hy jg=>ZsX n' cs' y hy jg
 simp only[List.drop,List.take,List.cons.injEq,and_true]at q0 q1
 subst q0
 subst q1
 exact⟨⟨st,a1,cap1,L1⟩,rfl,⟨dP,lZ,jU,jV⟩⟩
def vaC(b:Bool)(t:ByteArray)(x:Nat):List Value:=[.bool b,.string t,.float .f64 x]
theorem Zru:Tryz.prog.underlying 76=some (.struct #[⟨ "Number",4,0,false, "", "",0⟩,⟨ "Text",9,1,false, "", "",8⟩,⟨ "Float",47,2,false, "", "",24⟩]):=by kernel_rfl
theorem ZqB(n:Nat)(cs:List Value)(x:DataW H×List MemPlace)(h:DataW.trod enc Tryz.prog W 0 (λ_=>true) cC n 76 cs=some x)(hw:∀w∈x.1.weights Tryz.prog 76,w<=reachBytes):∃(b:Bool)(t:ByteArray)(x:Nat),cs=vaC b t x/\t.size<=1000000000000000:=by
 obtain⟨xs,k,hk,dO,bL,eT,hx⟩:=DataW.trod_struct Zru h
 have hc:Tryz.prog.cellsOf 76=3:=by kernel_rfl
 rw[hc]at bL
 obtain⟨c0,c1,c2,rfl⟩:∃c0 c1 c2,cs=[c0,c1,c2]:=by
  match cs,bL with
  | [c0,c1,c2],_=>exact⟨c0,c1,c2,rfl⟩
 obtain⟨z0,z1,z2,rfl⟩:∃z0 z1 z2,xs=[z0,z1,z2]:=by
  match xs,eT with
  | [z0,z1,z2],_=>exact⟨z0,z1,z2,rfl⟩
 rw[dO]at hw
 simp only[DataW.weights,Zru]at hw
 have g0:DataW.trod enc Tryz.prog W 0 (λ_=>true) cC k 4 (List.take (Tryz.prog.cellsOf 4) (List.drop 0 [c0,c1,c2]))=some z0:=hx 0 _ rfl
 rw[show Tryz.prog.cellsOf 4=1 by kernel_rfl]at g0
 obtain⟨b,q0,_⟩:=DataW.trod_bool (by kernel_rfl) g0
 have g1:DataW.trod enc Tryz.prog W 0 (λ_=>true) cC k 9 (List.take (Tryz.prog.cellsOf 9) (List.drop 1 [c0,c1,c2]))=some z1:=hx 1 _ rfl
 rw[show Tryz.prog.cellsOf 9=1 by kernel_rfl]at g1
 obtain⟨st,q1,e1,_⟩:=DataW.trod_string (by kernel_rfl) g1
 have dP:st.size<=1000000000000000:=Zws (P:=Tryz.prog) (t:=9) (H:=H) λw eC=>hw w (DataW.weights_mem_each (j:=1) (t:=9) rfl rfl w (by rw[e1];exact eC))
 have g2:DataW.trod enc Tryz.prog W 0 (λ_=>true) cC k 47 (List.take (Tryz.prog.cellsOf 47) (List.drop 2 [c0,c1,c2]))=some z2:=hx 2 _ rfl
 rw[show Tryz.prog.cellsOf 47=1 by kernel_rfl]at g2
 obtain⟨fx,q2,_⟩:=ZiC (by kernel_rfl) g2
 simp only[List.drop,List.take,List.cons.injEq,and_true]at q0 q1 q2
 subst q0
 subst q1
 subst q2
 exact⟨b,st,fx,rfl,dP⟩
theorem Zv0:Tryz.prog.underlying 78=some (.struct #[⟨ "Name",9,0,false, "", "",0⟩,⟨ "Value",76,1,false, "", "",16⟩]):=by kernel_rfl
theorem ZuC(n:Nat)(cs:List Value)(x:DataW H×List MemPlace)(h:DataW.trod enc Tryz.prog W 0 (λ_=>true) cC n 78 cs=some x)(hw:∀w∈x.1.weights Tryz.prog 78,w<=reachBytes):∃p:Va,cs=p.cs/\RepV p:=by
 obtain⟨xs,k,hk,dO,bL,eT,hx⟩:=DataW.trod_struct Zv0 h
 have hc:Tryz.prog.cellsOf 78=4:=by kernel_rfl
 rw[hc]at bL
 obtain⟨c0,c1,c2,c3,rfl⟩:∃c0 c1 c2 c3,cs=[c0,c1,c2,c3]:=by
  match cs,bL with
  | [c0,c1,c2,c3],_=>exact⟨c0,c1,c2,c3,rfl⟩
 obtain⟨z0,z1,rfl⟩:∃z0 z1,xs=[z0,z1]:=by
  match xs,eT with
  | [z0,z1],_=>exact⟨z0,z1,rfl⟩
 rw[dO]at hw
 simp only[DataW.weights,Zv0]at hw
 have g0:DataW.trod enc Tryz.prog W 0 (λ_=>true) cC k 9 (List.take (Tryz.prog.cellsOf 9) (List.drop 0 [c0,c1,c2,c3]))=some z0:=hx 0 _ rfl
 rw[show Tryz.prog.cellsOf 9=1 by kernel_rfl]at g0
 obtain⟨nm,q0,e0,_⟩:=DataW.trod_string (by kernel_rfl) g0
 have t8:nm.size<=1000000000000000:=Zws (P:=Tryz.prog) (t:=9) (H:=H) λw eC=>hw w (DataW.weights_mem_each (j:=0) (t:=9) rfl rfl w (by rw[e0];exact eC))
 have g1:DataW.trod enc Tryz.prog W 0 (λ_=>true) cC k 76 (List.take (Tryz.prog.cellsOf 76) (List.drop 1 [c0,c1,c2,c3]))=some z1:=hx 1 _ rfl
 rw[show Tryz.prog.cellsOf 76=3 by kernel_rfl]at g1
 obtain⟨b,st,fx,q1,r1⟩:=ZqB _ _ _ g1 (λw eC=>hw w (DataW.weights_mem_each (j:=1) (t:=76) rfl rfl w eC))
 simp only[List.drop,List.take,List.cons.injEq,and_true]at q0 q1
 subst q0
 simp only[vaC,List.cons.injEq,and_true]at q1
 obtain⟨rfl,rfl,rfl⟩:=q1
 exact⟨⟨nm,b,st,fx⟩,rfl,⟨t8,r1⟩⟩
theorem ZlB:Tryz.prog.underlying 27=some (.struct #[⟨ "Buffer",3,0,false, "", "",0⟩,⟨ "Vars",24,1,false, "", "",8⟩,⟨ "States",25,2,false, "", "",32⟩]):=by kernel_rfl
theorem Zpq(n:Nat)(cs:List Value)(x:DataW H×List MemPlace)(h:DataW.trod enc Tryz.prog W 0 (λ_=>true) cC n 27 cs=some x)(hw:∀w∈x.1.weights Tryz.prog 27,w<=reachBytes):∃s:Sc,cs=s.cs/\RepCw (Zhi W) s:=by
 obtain⟨xs,k,hk,dO,bL,eT,hx⟩:=DataW.trod_struct ZlB h
 have hc:Tryz.prog.cellsOf 27=3:=by kernel_rfl
 rw[hc]at bL
 obtain⟨c0,c1,c2,rfl⟩:∃c0 c1 c2,cs=[c0,c1,c2]:=by
  match cs,bL with
  | [c0,c1,c2],_=>exact⟨c0,c1,c2,rfl⟩
 obtain⟨z0,z1,z2,rfl⟩:∃z0 z1 z2,xs=[z0,z1,z2]:=by
  match xs,eT with
  | [z0,z1,z2],_=>exact⟨z0,z1,z2,rfl⟩
 rw[dO]at hw
 simp only[DataW.weights,ZlB]at hw
 have g0:DataW.trod enc Tryz.prog W 0 (λ_=>true) cC k 3 (List.take (Tryz.prog.cellsOf 3) (List.drop 0 [c0,c1,c2]))=some z0:=hx 0 _ rfl
 rw[show Tryz.prog.cellsOf 3=1 by kernel_rfl]at g0
 obtain⟨bf,q0,_,w0⟩:=DataW.trod_int Tryz.underlying3 g0
 have g1:DataW.trod enc Tryz.prog W 0 (λ_=>true) cC k 24 (List.take (Tryz.prog.cellsOf 24) (List.drop 1 [c0,c1,c2]))=some z1:=hx 1 _ rfl
 rw[show Tryz.prog.cellsOf 24=1 by kernel_rfl]at g1
 obtain⟨L1,a1,cap1,q1,oa,lZ,jU,jV⟩:=ZdJ (Zhy:=Va.cs) (Q:=RepV) (k:=4) (by kernel_rfl) (by kernel_rfl) (λ_=>rfl) (by decide) (of_decide_eq_true (by kernel_rfl)) g1 (λw eC=>hw w (DataW.weights_mem_each (j:=1) (t:=24) rfl rfl w eC)) λn' _ cs' y hy jg=>ZuC n' cs' y hy jg
 have g2:DataW.trod enc Tryz.prog W 0 (λ_=>true) cC k 25 (List.take (Tryz.prog.cellsOf 25) (List.drop 2 [c0,c1,c2]))=some z2:=hx 2 _ rfl
 rw[show Tryz.prog.cellsOf 25=1 by kernel_rfl]at g2
 obtain⟨L2,a2,cap2,q2,qR,qS,oe,og⟩:=ZdJ (Zhy:=Sta.cs) (Q:=RepSw (Zhi W)) (k:=2) (by kernel_rfl) (by kernel_rfl) (λ_=>rfl) (by decide) (of_decide_eq_true (by kernel_rfl)) g2 (λw eC=>hw w (DataW.weights_mem_each (j:=2) (t:=25) rfl rfl w eC)) λn' _ cs' y hy jg=>ZqA n' cs' y hy jg
 simp only[List.drop,List.take,List.cons.injEq,and_true]at q0 q1 q2
 subst q0
 subst q1
 subst q2
 exact⟨⟨bf,a1,cap1,L1,a2,cap2,L2⟩,rfl,⟨ZwQ w0,lZ,jU,jV,qS,oe,og,oa,qR⟩⟩
end
theorem ZwR:ownKnob Tryz.prog.godebug=none:=by kernel_rfl
theorem Zv1:laidOutB Tryz.prog=true:=by kernel_rfl
theorem ZjH(H:Type)(enc:TypeId×Value->H)(W:World)(base:Nat)(args:Array Value)(ds gs:List (DataW H))(before:List MemPlace)
  (kw:∀(j:Nat) t v,Tryz.f4.params[j]?=some t->args[j]?=some v->Value.okWide Tryz.prog W .any base t v)
  (hW:DataW.Whole enc Tryz.prog Tryz.f4.params.toList Rows.checkFirstSpec.vars false W args.toList ds gs before) (cD:(DataW.weightsEach Tryz.prog (Tryz.f4.params.toList++Rows.checkFirstSpec.plain.varTypes Tryz.prog) (ds++gs)).all (·<=reachBytes)=true):
  Calls Tryz.prog 4 args W λe W'=>∃v,e=.returned v/\Rows.checkFirstSpec.post enc Tryz.prog Tryz.f4 false true false false W args v W':=by
 have hW':=hW
 obtain⟨p,q,t9,hV,rfl,iY,dR⟩:=hW
 have hA:DataW.TrodAll enc Tryz.prog W 0 (λ_=>true) true Tryz.f4.params.toList args.toList ds p:=t9
 rw[Tryz.params4]at hA kw
 obtain⟨v0,d0,rfl,rfl,h0⟩:=trodAll_one hA
 obtain⟨rfl,rfl⟩:=trodVars_none hV
 obtain⟨fu,h1⟩:=h0
 obtain⟨cs,rfl,-⟩:=okWide_struct ZlB (kw 0 _ v0 rfl rfl)
 obtain⟨Lc,rfl⟩:∃L:List Value,cs=L.toArray:=⟨cs.toList,by simp⟩
 obtain⟨sc,dN,jM⟩:=Zpq fu _ _ h1 (λw eC=>by
  have:=List.all_eq_true.1 cD w (DataW.weights_mem_each (j:=0) (t:=27) (d:=d0) (by rw[Tryz.params4];rfl) rfl w eC)
  simpa using this)
 replace dN:Lc=sc.cs:=dN
 subst dN
 exact Zsh (tb:=4) Zv1 (by rw[Tryz.params4];intro t ht;simp at ht;rcases ht with rfl;exact⟨by kernel_rfl,of_decide_eq_true (by kernel_rfl)⟩) hW' rfl rfl rfl rfl rfl Tryz.underlying4 (ZlA sc (Zhi W) jM)
theorem Znm(os:Os)(started:os.Started)(H:Type)(enc:TypeId×Value->H):
  ReturnsInHanded {} Tryz.checked os 4 .any (λw args=>(Rows.checkFirstSpec.pre enc Tryz.prog Tryz.f4 Rows.checkFirstRow.domain false w args/\laidMetH Tryz.prog Rows.checkFirstRow.laid w)/\sizedMet enc Tryz.prog Tryz.f4 (OpenSpec.ofChange Rows.checkFirstSpec) false w args)
   (Rows.checkFirstSpec.post enc Tryz.prog Tryz.f4 false true false false):=by
 refine returnsInHanded_of_change_and (C:=Tryz.checked) (X:=λw _=>laidMetH Tryz.prog Rows.checkFirstRow.laid w) (λ_ _ _ hh h=>h.of_heap hh) ZwR started (by kernel_rfl) Tryz.func4
  (ChangeSpec.witness_shaped (enc:=enc) (C:=Tryz.checked) (os:=os) (X:=λw _=>laidMetH Tryz.prog Rows.checkFirstRow.laid w) false (World.laidAll Tryz.prog os Rows.checkFirstRow.laid) #[.agg #[.int .i64 0,.slice none 0 0,.slice none 0 0]] 8 (World.laidAll_os _ _ _)
   (World.shaped_of_ZipB (by kernel_rfl) (by kernel_rfl)) (by kernel_rfl) (by kernel_rfl) (by kernel_rfl)
   (by rw[MakeChecks.laidMetH_plain _ _ _ (by kernel_rfl)];exact laidMet_laidAll _ (by kernel_rfl) (by kernel_rfl))) ?_
 intro W base args ds gs before kw hW _ cD _ _
 exact ZjH H enc W base args ds gs before kw hW cD
theorem ZsY:Rows.CheckFirstSaid:=
 OpenClaim.holds_of_wide 4 Tryz.f4 rfl rfl rfl rfl rfl rfl rfl ⟨rfl,rfl,rfl,rfl,rfl⟩ rfl rfl rfl rfl rfl (by kernel_rfl) Tryz.func4 (by kernel_rfl)
  (of_decide_eq_true (by kernel_rfl)) (by unfold Func.isWrapper;first|(rw[if_pos (by decide +kernel)];kernel_rfl)|(rw[if_neg (by decide +kernel)];exact⟨rfl,rfl⟩))
  (λos started H enc _=>Znm os started H enc)
theorem first_holds:Rows.CheckFirstCardSaid:=
 Claim7.holds_tied_plain_at .later [] [.data,.pinned] true (true, "a82aa9d6642ad1f548a5bb9a62cdfba711ee608f2632255de50e20b66b0f9b64") false ZsY (λ_ h=>by cases h) (by kernel_rfl) (λ_ h=>by cases h) checkFirst_row_tie rfl ⟨rfl,rfl⟩ (by kernel_rfl) rfl
  (λf fn hf jY=>by
   obtain rfl:f=4:=Option.some.inj ((show Tryz.prog.funcNamed "repartee/reparteelaw30.CheckFirst" = some 4 by kernel_rfl).symm.trans hf) |>.symm
   obtain rfl:fn=Tryz.f4:=(Option.some.inj (Tryz.func4.symm.trans jY)).symm
   exact⟨by kernel_rfl,λj t ht=>by
    rw[Tryz.params4]at ht
    have hm:t∈[27]:=by simpa using Array.mem_of_getElem? ht
    have cB:([27].all λu=>!Tryz.prog.wantsStandIn u)=true:=by kernel_rfl
    exact(show Tryz.prog.wantsStandIn t=false by simpa using List.all_eq_true.1 cB t hm)⟩)
  (by kernel_rfl)
#print axioms first_holds
end Go.Proofs.YtiadlgdcbpnmkaaGreatDoor