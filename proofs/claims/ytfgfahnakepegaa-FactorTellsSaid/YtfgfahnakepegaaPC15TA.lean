/- Part of the proof: conditions and contracts of functions of this program. No condition of its own. -/
import Derived.Test.YtfgfahnakepegaaPC13TC
import Derived.Test.YtfgfahnakepegaaPEnv
import Derived.Test.YtfgfahnakepegaaMr
set_option linter.unusedVariables false
set_option linter.unusedSimpArgs false
namespace Go.Proofs.Ytfgfahnakepegaa
open Go Go.Eng Go.Rx Go.Proofs Go.RowKit
set_option maxRecDepth 100000
theorem ZCq(t u:T):decide (t.q=u.q)=(t.s0 == u.s0&&t.s1 == u.s1&&t.s2 == u.s2&&t.s3 == u.s3):=by
 unfold T.q
 rw[Bool.eq_iff_iff]
 simp[Prod.ext_iff,and_assoc]
theorem ZxD(t u:T):t.same u=(t.k == u.k&&(decide (t.q=u.q)&&(t.mn == u.mn&&(t.mx == u.mx&&Zd4 t.subs u.subs)))):=by rw[Zwi,ZCq]
def Zui(t u:T):Bool:=t.k == u.k&&(decide (t.q=u.q)&&(t.mn == u.mn&&(t.mx == u.mx&&t.subs.length == u.subs.length)))
theorem ZxE{t u:T}(h:Zui t u=false):t.same u=false:=by
 rw[ZxD]
 unfold Zui at h
 cases h1:t.k == u.k <;> rw[h1]at h <;> simp only[Bool.false_and,Bool.true_and]at h ⊢
 cases h2:decide (t.q=u.q) <;> rw[h2]at h <;> simp only[Bool.false_and,Bool.true_and]at h ⊢
 cases h3:t.mn == u.mn <;> rw[h3]at h <;> simp only[Bool.false_and,Bool.true_and]at h ⊢
 cases h4:t.mx == u.mx <;> rw[h4]at h <;> simp only[Bool.false_and,Bool.true_and]at h ⊢
 exact Zl8 (by simpa using h)
theorem ZvR{t u:T}(h:Zui t u=true):t.subs.length=u.subs.length/\t.same u=Zd4 t.subs u.subs:=by
 rw[ZxD]
 unfold Zui at h
 simp only[Bool.and_eq_true]at h
 obtain⟨h1,h2,h3,h4,h5⟩:=h
 rw[h1,h2,h3,h4]
 exact⟨by simpa using h5,by simp⟩
set_option maxHeartbeats 2000000 in
theorem Zuj:∀(t u:T)(cs ds:List Value)(m:Mem),RefT m t cs->RefT m u ds->CX Try.prog 83 #[.agg cs.toArray,.agg ds.toArray] m [] (Ret (.bool (t.same u))):=by
 intro t
 induction hn:SizeOf.sizeOf t using Nat.strongRecOn generalizing t with
 | ind n ih=>
 intro u cs ds m hr hu
 obtain⟨bC,aU,a,c,css,rfl,aR,bQ,_⟩:=Za6.1 hr
 obtain⟨vD,gL,a',c',dss,rfl,lU,pJ,_⟩:=Za6.1 hu
 apply ZmS
 unfold ZhD
 refine Zjk λb m1 aM _=>Zjk λb2 m2 aP _=>?_
 have bY:=mLt aM aP
 refine⟨!Zui t u,?_,Zab (λh=>Zah bY ?_) (λh=>?_)⟩
 ·unfold Zui
  refine Zbj (Zbj (Zaa rfl (Zab (λh1=>⟨by trivial,?_⟩) (λh1=>Zaa (by rw[Zfm];rfl) (Zaa (by rw[Zfm];rfl) ⟨decide (t.q=u.q),by rw[Zlq,Zlq];exact ZBF (ZtV bC) (ZtV vD),Zab (λh2=>⟨by trivial,?_⟩) (λh2=>Zrm (Zrm (Zaa rfl (Zab (λh3=>⟨by trivial,?_⟩) (λh3=>Zrn (Zrn (Zaa rfl (Zab (λh4=>⟨by trivial,?_⟩) (λh4=>ZbA (Zaa rfl (ZbA (Zaa rfl ⟨by trivial,?_⟩))))))))))))⟩)))))
  ·have h1':(!t.k == u.k)=true:=h1
   have:(t.k == u.k)=false:=by rw[<-Bool.not_not (_ == _),h1'];rfl
   rw[this];rfl
  all_goals
   have e1:(t.k == u.k)=true:=by rw[<-Bool.not_not (t.k == u.k),show(!t.k == u.k)=false from h1];rfl
   rw[e1,Bool.true_and]
  ·have:decide (t.q=u.q)=false:=by rw[<-Bool.not_not (decide _),h2];rfl
   rw[this];rfl
  all_goals
   have e2:decide (t.q=u.q)=true:=by rw[<-Bool.not_not (decide _),h2];rfl
   rw[e2,Bool.true_and]
  ·have:(t.mn == u.mn)=false:=by rw[<-Bool.not_not (_ == _),show(!t.mn == u.mn)=true from h3];rfl
   rw[this];rfl
  all_goals
   have e3:(t.mn == u.mn)=true:=by rw[<-Bool.not_not (_ == _),show(!t.mn == u.mn)=false from h3];rfl
   rw[e3,Bool.true_and]
  ·have:(t.mx == u.mx)=false:=by rw[<-Bool.not_not (_ == _),show(!t.mx == u.mx)=true from h4];rfl
   rw[this];rfl
  ·have e4:(t.mx == u.mx)=true:=by rw[<-Bool.not_not (_ == _),show(!t.mx == u.mx)=false from h4];rfl
   rw[e4,Bool.true_and]
   have e5:((t.subs.length:Int) == (u.subs.length:Int))=(t.subs.length == u.subs.length):=by rw[Bool.eq_iff_iff];simp;omega
   show[Value.bool (!((t.subs.length:Int) == (u.subs.length:Int)))]=_
   rw[e5]
 ·rw[ZxE (by rw[<-Bool.not_not (Zui t u),h];rfl)]
 ·obtain⟨gF,gR⟩:=ZvR (t:=t) (u:=u) (by rw[<-Bool.not_not (Zui t u),h];rfl)
  refine⟨λxs _ _ m' q=>∃k:Nat,k<=t.subs.length/\xs=[.int .i64 k]/\m.le m'/\Zd4 (t.subs.take k) (u.subs.take k)=true/\q=t.subs.length - k,⟨_,0,Nat.zero_le _,rfl,bY,by simp[Zd4],rfl⟩,?_⟩
  rintro z m3 q _ ⟨k,hk,hz,aX,aV,hq⟩
  obtain rfl:z=k:=by simpa using hz
  subst hq
  refine ZbA (Zaa rfl (ZbD (λaS=>?_) (λbM=>?_)))
  ·have aQ:k < t.subs.length:=by simp only[slN]at aS;omega
   obtain⟨x,hx⟩:=Za7 aQ
   obtain⟨y,hy⟩:=Za7 (l:=u.subs) (k:=k) (by omega)
   obtain⟨bb,o,cs2,ha,bA,bX⟩:=Zcd aR bQ hx
   obtain⟨bb',o',ds2,ha',iK,kD⟩:=Zcd lU pJ hy
   have eK:=Zdy (List.mem_of_getElem? hx)
   refine⟨λ_ _ _=>Ret (.bool (x.same y)),ZbA (Zaa rfl ⟨bb,o,ha,⟨by omega,by simp only[slN];omega⟩,cs2,bX.len,(by rw[Int.toNat_natCast];exact bA.mono aX),ZbA (Zaa rfl ⟨bb',o',ha',⟨by omega,by simp only[slN];omega⟩,ds2,kD.len,(by rw[Int.toNat_natCast];exact iK.mono aX),_,rfl,ih _ (by omega) x rfl y cs2 ds2 m3 (bX.mono aX) (kD.mono aX),λv _ _ e=>by rw[e];rfl,?_⟩)⟩)⟩
   intro b5 m4 bG hR M dP dY
   obtain rfl:b5=x.same y:=by
    have hR:Value.bool b5=.bool (x.same y):=hR
    simpa using hR
   refine Zab (λhf=>Zah (mLt aX dP) ?_) (λhf=>⟨by trivial,_,by omega,k+1,aQ,by rw[ZaB (by omega) (by omega)];rfl,mLt aX dP,ZjQ hx hy aV (by rw[<-Bool.not_not (x.same y),hf];rfl) trivial,rfl⟩)
   rw[gR,Zpz hx hy (by rw[<-Bool.not_not (x.same y),hf];rfl)]
  ·have:k=t.subs.length:=by simp only[slN]at bM;omega
   subst this
   rw[List.take_length,gF,List.take_length]at aV
   exact Zah aX (by rw[gR,aV])
theorem Zzr(m:Mem):RefT m T0 (rcs 0 (0,0,0,0) 0 0 none 0 0):=Za6.2 ⟨⟨⟨by decide,by decide⟩,⟨by decide,by decide⟩,⟨by decide,by decide⟩,⟨by decide,by decide⟩,⟨by decide,by decide⟩,⟨by decide,by decide⟩,⟨by decide,by decide⟩⟩,by decide,none,0,[],rfl,.inl rfl,by simp only[T0,T.subs,RefAt],Nat.le_refl _⟩
end Go.Proofs.Ytfgfahnakepegaa
set_option linter.unusedVariables false
namespace Go.Proofs.Ytfgfahnakepegaa
open Go Go.Eng Go.Proofs Go.RowKit
open Go.Value (int slice agg bool string tuple func)
open Go.IntKind (u8 u64 i64)
set_option maxRecDepth 100000
noncomputable def Zpb:Env:={ EB with
 frzNew:=[1] }
abbrev ZhE:List Value:=[int i64 0,int i64 0,int i64 0,int i64 0,int i64 0,int i64 0,int i64 0,int i64 0,int i64 0,int i64 0,int i64 0,int i64 0,int i64 0,int i64 0,int i64 0,int i64 0,int
 i64 0,int i64 0,int i64 0,int i64 0,int i64 0,int i64 0,int i64 0,int i64 0,int i64 0,int i64 0,int i64 0,int i64 0,int i64 0,int i64 0,int i64 0,int i64 0,int i64 0,int i64 0,int i64 0,int i64 0,int
 i64 0,int i64 0,int i64 0,int i64 0,int i64 0,int i64 0,int i64 0,int i64 0,int i64 0,int i64 0,int i64 0,int i64 0,int i64 0,int i64 0,int i64 0,int i64 0,int i64 0,int i64 0,int i64 0,int i64 0,int
 i64 0,int i64 0,int i64 0,int i64 0,int i64 0,int i64 0,int i64 0,int i64 0,int i64 0,int i64 0,int i64 0,int i64 0,int i64 0,int i64 0,int i64 0,int i64 0,int i64 0,int i64 0,int i64 0,int i64 0,int
 i64 0,int i64 0,int i64 0,int i64 0,int i64 0,int i64 0,int i64 0,int i64 0,int i64 0,int i64 0,int i64 0,int i64 0,int i64 0,int i64 0,int i64 0,int i64 0,int i64 0,int i64 0,int i64 0,int i64 0,int
 i64 0,int i64 0,int i64 0,int i64 0,int i64 0,int i64 0,int i64 0,int i64 0,int i64 0,int i64 0,int i64 0,int i64 0,int i64 0,int i64 0,int i64 0,int i64 0,int i64 0,int i64 0,int i64 0,int i64 0,int
 i64 0,int i64 0,int i64 0,int i64 0,int i64 0,int i64 0,int i64 0,int i64 0,int i64 0,int i64 0,int i64 0,int i64 0,int i64 0,int i64 0,int i64 0,int i64 0,int i64 0,int i64 0,int i64 0,int i64 0,int
 i64 0,int i64 0,int i64 0,int i64 0,int i64 0,int i64 0,int i64 0,int i64 0,int i64 0,int i64 0,int i64 0,int i64 0,int i64 0,int i64 0,int i64 0,int i64 0,int i64 0,int i64 0,int i64 0,int i64 0,int
 i64 0,int i64 0,int i64 0,int i64 0,int i64 0,int i64 0,int i64 0,int i64 0,int i64 0,int i64 0,int i64 0,int i64 0,int i64 0,int i64 0,int i64 0,int i64 0,int i64 0,int i64 0,int i64 0,int i64 0,int
 i64 0,int i64 0,int i64 0,int i64 0,int i64 0,int i64 0,int i64 0,int i64 0,int i64 0,int i64 0,int i64 0,int i64 0,int i64 0,int i64 0,int i64 0,int i64 0,int i64 0,int i64 0,int i64 0,int i64 0,int
 i64 0,int i64 0,int i64 0,int i64 0,int i64 0,int i64 0,int i64 0,int i64 0,int i64 0,int i64 0,int i64 0,int i64 0,int i64 0,int i64 0,int i64 0,int i64 0,int i64 0,int i64 0,int i64 0,int i64 0,int
 i64 0,int i64 0,int i64 0,int i64 0,int i64 0,int i64 0,int i64 0,int i64 0,int i64 0,int i64 0,int i64 0,int i64 0,int i64 0,int i64 0,int i64 0,int i64 0,int i64 0,int i64 0,int i64 0,int i64 0,int
 i64 0,int i64 0,int i64 0,int i64 0,int i64 0,int i64 0,int i64 0,int i64 0,int i64 0,int i64 0,int i64 0,int i64 0,int i64 0,int i64 0,int i64 0,int i64 0,int i64 0,int i64 0,int i64 0,int i64 0,int
 i64 0,int i64 0,int i64 0,slice none 0 0]
def ZhF(p0:List Value)(m:Mem)(R:RT):Prop:=
 chk (Nat.beq (List.length p0) 260) (∀(b:Nat)(m':Mem),Mem.le m m'->Mem.reads m' b 0 p0->∀(b:Nat),∃(R_1:RT),True/\CX Try.prog 79 (Array.mk [agg (Array.mk p0)]) m' [] R_1/\Zat Shape.bool R_1/\∀(b:
 Bool) (m'_1:Mem),Mem.le m' m'_1->R_1 (bool b) m'_1 []->br b (chk (Nat.beq (List.length p0) 260&&ZbC p0) (∃(m'':Mem),Mem.le m m''/\Mem.le m'' m'_1/\R (agg (Array.mk p0)) m'' [])) (∃(m'':Mem),Mem.le m
 m''/\Mem.le m'' m'_1/\R (agg (Array.mk ZhE)) m'' []))
theorem ZmV(p0:List Value)(m:Mem)(R:RT)(h:ZhF p0 m R):CX Try.prog 124 #[.agg p0.toArray] m [] R:=
 Zad (E:=Zpb) ZaE mix Try.func124 [.v (.agg p0.toArray)] [] (by kernel_rfl) (Eq.mp (by kernel_rfl) h)
noncomputable def Zpc:Env:={ EB with
 frzNew:=[1] }
abbrev ZhG:List Value:=[int i64 0,int i64 0,int i64 0,int i64 0,int i64 0,int i64 0,int i64 0,int i64 0,int i64 0,int i64 0,int i64 0,int i64 0,int i64 0,int i64 0,int i64 0,int i64 0,int
 i64 0,int i64 0,int i64 0,int i64 0,int i64 0,int i64 0,int i64 0,int i64 0,int i64 0,int i64 0,int i64 0,int i64 0,int i64 0,int i64 0,int i64 0,int i64 0,int i64 0,int i64 0,int i64 0,int i64 0,int
 i64 0,int i64 0,int i64 0,int i64 0,int i64 0,int i64 0,int i64 0,int i64 0,int i64 0,int i64 0,int i64 0,int i64 0,int i64 0,int i64 0,int i64 0,int i64 0,int i64 0,int i64 0,int i64 0,int i64 0,int
 i64 0,int i64 0,int i64 0,int i64 0,int i64 0,int i64 0,int i64 0,int i64 0,int i64 0,int i64 0,int i64 0,int i64 0,int i64 0,int i64 0,int i64 0,int i64 0,int i64 0,int i64 0,int i64 0,int i64 0,int
 i64 0,int i64 0,int i64 0,int i64 0,int i64 0,int i64 0,int i64 0,int i64 0,int i64 0,int i64 0,int i64 0,int i64 0,int i64 0,int i64 0,int i64 0,int i64 0,int i64 0,int i64 0,int i64 0,int i64 0,int
 i64 0,int i64 0,int i64 0,int i64 0,int i64 0,int i64 0,int i64 0,int i64 0,int i64 0,int i64 0,int i64 0,int i64 0,int i64 0,int i64 0,int i64 0,int i64 0,int i64 0,int i64 0,int i64 0,int i64 0,int
 i64 0,int i64 0,int i64 0,int i64 0,int i64 0,int i64 0,int i64 0,int i64 0,int i64 0,int i64 0,int i64 0,int i64 0,int i64 0,int i64 0,int i64 0,int i64 0,int i64 0,int i64 0,int i64 0,int i64 0,int
 i64 0,int i64 0,int i64 0,int i64 0,int i64 0,int i64 0,int i64 0,int i64 0,int i64 0,int i64 0,int i64 0,int i64 0,int i64 0,int i64 0,int i64 0,int i64 0,int i64 0,int i64 0,int i64 0,int i64 0,int
 i64 0,int i64 0,int i64 0,int i64 0,int i64 0,int i64 0,int i64 0,int i64 0,int i64 0,int i64 0,int i64 0,int i64 0,int i64 0,int i64 0,int i64 0,int i64 0,int i64 0,int i64 0,int i64 0,int i64 0,int
 i64 0,int i64 0,int i64 0,int i64 0,int i64 0,int i64 0,int i64 0,int i64 0,int i64 0,int i64 0,int i64 0,int i64 0,int i64 0,int i64 0,int i64 0,int i64 0,int i64 0,int i64 0,int i64 0,int i64 0,int
 i64 0,int i64 0,int i64 0,int i64 0,int i64 0,int i64 0,int i64 0,int i64 0,int i64 0,int i64 0,int i64 0,int i64 0,int i64 0,int i64 0,int i64 0,int i64 0,int i64 0,int i64 0,int i64 0,int i64 0,int
 i64 0,int i64 0,int i64 0,int i64 0,int i64 0,int i64 0,int i64 0,int i64 0,int i64 0,int i64 0,int i64 0,int i64 0,int i64 0,int i64 0,int i64 0,int i64 0,int i64 0,int i64 0,int i64 0,int i64 0,int
 i64 0,int i64 0,int i64 0,int i64 0,int i64 0,int i64 0,int i64 0,int i64 0,int i64 0,int i64 0,int i64 0,int i64 0,int i64 0,int i64 0,int i64 0,int i64 0,int i64 0,int i64 0,int i64 0,int i64 0,int
 i64 0,int i64 0,int i64 0,slice none 0 0]
def ZhH(p0:List Value)(m:Mem)(R:RT):Prop:=
 chk (Nat.beq (List.length p0) 260) (∀(b:Nat)(m':Mem),Mem.le m m'->Mem.reads m' b 0 p0->∃(R_1:RT),True/\CX Try.prog 83 (Array.mk [agg (Array.mk p0),agg (Array.mk ZhG)]) m' [] R_1/\Zat
 Shape.bool R_1/\∀(b:Bool)(m'_1:Mem),Mem.le m' m'_1->R_1 (bool b) m'_1 []->∃(m'':Mem),Mem.le m m''/\Mem.le m'' m'_1/\R (bool b) m'' [])
theorem ZmW(p0:List Value)(m:Mem)(R:RT)(h:ZhH p0 m R):CX Try.prog 125 #[.agg p0.toArray] m [] R:=
 Zad (E:=Zpc) ZaE mix Try.func125 [.v (.agg p0.toArray)] [] (by kernel_rfl) (Eq.mp (by kernel_rfl) h)
noncomputable def Zro:Env:={ EB with
 loops:=(λi=>bif Nat.beq i 3 then⟨[(3,.slice),(4,.int .i64)],[2],[(30,260)],false⟩ else⟨[],[],[],false⟩)
 tokOf:=(λi=>bif Nat.beq i 30 then 30 else bif Nat.beq i 43 then 30 else 0)
 capF:=true }
abbrev Zjl:List Value:=[int i64 0,int i64 0,int i64 0,int i64 0,int i64 0,int i64 0,int i64 0,int i64 0,int i64 0,int i64 0,int i64 0,int i64 0,int i64 0,int i64 0,int i64 0,int i64 0,int
 i64 0,int i64 0,int i64 0,int i64 0,int i64 0,int i64 0,int i64 0,int i64 0,int i64 0,int i64 0,int i64 0,int i64 0,int i64 0,int i64 0,int i64 0,int i64 0,int i64 0,int i64 0,int i64 0,int i64 0,int
 i64 0,int i64 0,int i64 0,int i64 0,int i64 0,int i64 0,int i64 0,int i64 0,int i64 0,int i64 0,int i64 0,int i64 0,int i64 0,int i64 0,int i64 0,int i64 0,int i64 0,int i64 0,int i64 0,int i64 0,int
 i64 0,int i64 0,int i64 0,int i64 0,int i64 0,int i64 0,int i64 0,int i64 0,int i64 0,int i64 0,int i64 0,int i64 0,int i64 0,int i64 0,int i64 0,int i64 0,int i64 0,int i64 0,int i64 0,int i64 0,int
 i64 0,int i64 0,int i64 0,int i64 0,int i64 0,int i64 0,int i64 0,int i64 0,int i64 0,int i64 0,int i64 0,int i64 0,int i64 0,int i64 0,int i64 0,int i64 0,int i64 0,int i64 0,int i64 0,int i64 0,int
 i64 0,int i64 0,int i64 0,int i64 0,int i64 0,int i64 0,int i64 0,int i64 0,int i64 0,int i64 0,int i64 0,int i64 0,int i64 0,int i64 0,int i64 0,int i64 0,int i64 0,int i64 0,int i64 0,int i64 0,int
 i64 0,int i64 0,int i64 0,int i64 0,int i64 0,int i64 0,int i64 0,int i64 0,int i64 0,int i64 0,int i64 0,int i64 0,int i64 0,int i64 0,int i64 0,int i64 0,int i64 0,int i64 0,int i64 0,int i64 0,int
 i64 0,int i64 0,int i64 0,int i64 0,int i64 0,int i64 0,int i64 0,int i64 0,int i64 0,int i64 0,int i64 0,int i64 0,int i64 0,int i64 0,int i64 0,int i64 0,int i64 0,int i64 0,int i64 0,int i64 0,int
 i64 0,int i64 0,int i64 0,int i64 0,int i64 0,int i64 0,int i64 0,int i64 0,int i64 0,int i64 0,int i64 0,int i64 0,int i64 0,int i64 0,int i64 0,int i64 0,int i64 0,int i64 0,int i64 0,int i64 0,int
 i64 0,int i64 0,int i64 0,int i64 0,int i64 0,int i64 0,int i64 0,int i64 0,int i64 0,int i64 0,int i64 0,int i64 0,int i64 0,int i64 0,int i64 0,int i64 0,int i64 0,int i64 0,int i64 0,int i64 0,int
 i64 0,int i64 0,int i64 0,int i64 0,int i64 0,int i64 0,int i64 0,int i64 0,int i64 0,int i64 0,int i64 0,int i64 0,int i64 0,int i64 0,int i64 0,int i64 0,int i64 0,int i64 0,int i64 0,int i64 0,int
 i64 0,int i64 0,int i64 0,int i64 0,int i64 0,int i64 0,int i64 0,int i64 0,int i64 0,int i64 0,int i64 0,int i64 0,int i64 0,int i64 0,int i64 0,int i64 0,int i64 0,int i64 0,int i64 0,int i64 0,int
 i64 0,int i64 0,int i64 0,int i64 0,int i64 0,int i64 0,int i64 0,int i64 0,int i64 0,int i64 0,int i64 0,int i64 0,int i64 0,int i64 0,int i64 0,int i64 0,int i64 0,int i64 0,int i64 0,int i64 0,int
 i64 0,int i64 0,int i64 0,slice none 0 0]
abbrev ZfL:Nat->List (Option Box):=λ(b:Nat)=>[some (Box.mk b [] 70 260 false true)]
abbrev Zjm:List Value:=[int i64 1,int i64 0,int i64 0,int i64 0,int i64 0,int i64 0,int i64 0,int i64 0,int i64 0,int i64 0,int i64 0,int i64 0,int i64 0,int i64 0,int i64 0,int i64 0,int
 i64 0,int i64 0,int i64 0,int i64 0,int i64 0,int i64 0,int i64 0,int i64 0,int i64 0,int i64 0,int i64 0,int i64 0,int i64 0,int i64 0,int i64 0,int i64 0,int i64 0,int i64 0,int i64 0,int i64 0,int
 i64 0,int i64 0,int i64 0,int i64 0,int i64 0,int i64 0,int i64 0,int i64 0,int i64 0,int i64 0,int i64 0,int i64 0,int i64 0,int i64 0,int i64 0,int i64 0,int i64 0,int i64 0,int i64 0,int i64 0,int
 i64 0,int i64 0,int i64 0,int i64 0,int i64 0,int i64 0,int i64 0,int i64 0,int i64 0,int i64 0,int i64 0,int i64 0,int i64 0,int i64 0,int i64 0,int i64 0,int i64 0,int i64 0,int i64 0,int i64 0,int
 i64 0,int i64 0,int i64 0,int i64 0,int i64 0,int i64 0,int i64 0,int i64 0,int i64 0,int i64 0,int i64 0,int i64 0,int i64 0,int i64 0,int i64 0,int i64 0,int i64 0,int i64 0,int i64 0,int i64 0,int
 i64 0,int i64 0,int i64 0,int i64 0,int i64 0,int i64 0,int i64 0,int i64 0,int i64 0,int i64 0,int i64 0,int i64 0,int i64 0,int i64 0,int i64 0,int i64 0,int i64 0,int i64 0,int i64 0,int i64 0,int
 i64 0,int i64 0,int i64 0,int i64 0,int i64 0,int i64 0,int i64 0,int i64 0,int i64 0,int i64 0,int i64 0,int i64 0,int i64 0,int i64 0,int i64 0,int i64 0,int i64 0,int i64 0,int i64 0,int i64 0,int
 i64 0,int i64 0,int i64 0,int i64 0,int i64 0,int i64 0,int i64 0,int i64 0,int i64 0,int i64 0,int i64 0,int i64 0,int i64 0,int i64 0,int i64 0,int i64 0,int i64 0,int i64 0,int i64 0,int i64 0,int
 i64 0,int i64 0,int i64 0,int i64 0,int i64 0,int i64 0,int i64 0,int i64 0,int i64 0,int i64 0,int i64 0,int i64 0,int i64 0,int i64 0,int i64 0,int i64 0,int i64 0,int i64 0,int i64 0,int i64 0,int
 i64 0,int i64 0,int i64 0,int i64 0,int i64 0,int i64 0,int i64 0,int i64 0,int i64 0,int i64 0,int i64 0,int i64 0,int i64 0,int i64 0,int i64 0,int i64 0,int i64 0,int i64 0,int i64 0,int i64 0,int
 i64 0,int i64 0,int i64 0,int i64 0,int i64 0,int i64 0,int i64 0,int i64 0,int i64 0,int i64 0,int i64 0,int i64 0,int i64 0,int i64 0,int i64 0,int i64 0,int i64 0,int i64 0,int i64 0,int i64 0,int
 i64 0,int i64 0,int i64 0,int i64 0,int i64 0,int i64 0,int i64 0,int i64 0,int i64 0,int i64 0,int i64 0,int i64 0,int i64 0,int i64 0,int i64 0,int i64 0,int i64 0,int i64 0,int i64 0,int i64 0,int
 i64 0,int i64 0,int i64 0,int i64 0,int i64 0,int i64 0,int i64 0,int i64 0,int i64 0,int i64 0,int i64 0,int i64 0,int i64 0,int i64 0,int i64 0,int i64 0,int i64 0,int i64 0,int i64 0,int i64 0,int
 i64 0,int i64 0,int i64 0,slice none 0 0]
abbrev Zjn(a:Option Addr)(n c:Nat):List Value:=[int i64 3,int i64 0,int i64 0,int i64 0,int i64 0,int i64 0,int i64 0,int i64 0,int i64 0,int i64 0,int i64 0,int i64 0,int i64 0,int i64
 0,int i64 0,int i64 0,int i64 0,int i64 0,int i64 0,int i64 0,int i64 0,int i64 0,int i64 0,int i64 0,int i64 0,int i64 0,int i64 0,int i64 0,int i64 0,int i64 0,int i64 0,int i64 0,int i64 0,int i64
 0,int i64 0,int i64 0,int i64 0,int i64 0,int i64 0,int i64 0,int i64 0,int i64 0,int i64 0,int i64 0,int i64 0,int i64 0,int i64 0,int i64 0,int i64 0,int i64 0,int i64 0,int i64 0,int i64 0,int i64
 0,int i64 0,int i64 0,int i64 0,int i64 0,int i64 0,int i64 0,int i64 0,int i64 0,int i64 0,int i64 0,int i64 0,int i64 0,int i64 0,int i64 0,int i64 0,int i64 0,int i64 0,int i64 0,int i64 0,int i64
 0,int i64 0,int i64 0,int i64 0,int i64 0,int i64 0,int i64 0,int i64 0,int i64 0,int i64 0,int i64 0,int i64 0,int i64 0,int i64 0,int i64 0,int i64 0,int i64 0,int i64 0,int i64 0,int i64 0,int i64
 0,int i64 0,int i64 0,int i64 0,int i64 0,int i64 0,int i64 0,int i64 0,int i64 0,int i64 0,int i64 0,int i64 0,int i64 0,int i64 0,int i64 0,int i64 0,int i64 0,int i64 0,int i64 0,int i64 0,int i64
 0,int i64 0,int i64 0,int i64 0,int i64 0,int i64 0,int i64 0,int i64 0,int i64 0,int i64 0,int i64 0,int i64 0,int i64 0,int i64 0,int i64 0,int i64 0,int i64 0,int i64 0,int i64 0,int i64 0,int i64
 0,int i64 0,int i64 0,int i64 0,int i64 0,int i64 0,int i64 0,int i64 0,int i64 0,int i64 0,int i64 0,int i64 0,int i64 0,int i64 0,int i64 0,int i64 0,int i64 0,int i64 0,int i64 0,int i64 0,int i64
 0,int i64 0,int i64 0,int i64 0,int i64 0,int i64 0,int i64 0,int i64 0,int i64 0,int i64 0,int i64 0,int i64 0,int i64 0,int i64 0,int i64 0,int i64 0,int i64 0,int i64 0,int i64 0,int i64 0,int i64
 0,int i64 0,int i64 0,int i64 0,int i64 0,int i64 0,int i64 0,int i64 0,int i64 0,int i64 0,int i64 0,int i64 0,int i64 0,int i64 0,int i64 0,int i64 0,int i64 0,int i64 0,int i64 0,int i64 0,int i64
 0,int i64 0,int i64 0,int i64 0,int i64 0,int i64 0,int i64 0,int i64 0,int i64 0,int i64 0,int i64 0,int i64 0,int i64 0,int i64 0,int i64 0,int i64 0,int i64 0,int i64 0,int i64 0,int i64 0,int i64
 0,int i64 0,int i64 0,int i64 0,int i64 0,int i64 0,int i64 0,int i64 0,int i64 0,int i64 0,int i64 0,int i64 0,int i64 0,int i64 0,int i64 0,int i64 0,int i64 0,int i64 0,int i64 0,int i64 0,int i64
 0,int i64 0,int i64 0,int i64 0,int i64 0,int i64 0,int i64 0,int i64 0,int i64 0,int i64 0,int i64 0,int i64 0,int i64 0,int i64 0,int i64 0,int i64 0,int i64 0,int i64 0,int i64 0,int i64 0,int i64
 0,int i64 0,int i64 0,int i64 0,int i64 0,int i64 0,slice a n c]
def Zjo(p0a:Option Addr)(p0n p0c:Nat)(m:Mem)(R:RT):Prop:=
 ∀(b:Nat),∃(I:IT),(∃(n:Nat),I [slice none 0 0,int i64 0] [Zjl] [slice none 0 0] m n)/\∀(a:Option Addr)(n c:Nat)(ab:Int)(cs:List Value)(ae:Option Addr)(af ag:Nat)(m':Mem) (ah:
 Nat),Mem.le m m'->I [slice a n c,int i64 ab] [cs] [slice ae af ag] m' ah->br (decide (ab < (↑p0n:Int))) (∃(ai:Nat),∃(o:Nat),p0a=some (Addr.mk ai o none)/\Zae ab p0n/\∃(vs:List Value),
 List.length vs=260/\Mem.reads m' ai (o+Int.toNat ab*260) vs/\∃(R_1:RT),True/\CX Try.prog 79 (Array.mk [agg (Array.mk vs)]) m' [] R_1/\Zat Shape.bool R_1/\∀(aj:Bool)(aa:Mem),Mem.le m' aa->R_1
 (bool aj) aa []->br (!aj) (∃(m'':Mem),Mem.le m m''/\Mem.le m'' aa/\R (agg (Array.mk Zjl)) m'' []) (∃(ak:Nat),∃(o:Nat),p0a=some (Addr.mk ak o none)/\Zae ab p0n/\∃(v:Value),aa ak (o +
 Int.toNat ab*260+0)=some v/\chk (ZaD i64 v&&decide (i64=i64)) (br (RowKit.intOf v == (3:Int)) (∃(ac:Nat),∃(o:Nat),p0a=some (Addr.mk ac o none)/\Zae ab p0n/\∃(v:Value),aa ac (o +
 Int.toNat ab*260+259)=some v/\chk (Zcy v&&true) ((Tok.mk (slice ae af ag) 260=Tok.mk (slice a n c) 260\/slice a n c=slice none 0 0\/c < n+slN v)/\∃(xs:List Value),∃(ys:List Value),List.length
 xs=n*260/\List.length ys=slN v*260/\rowRd aa a xs/\rowRd aa (slA v) ys/\(∀(u:Value),u∈ys->Value.oneCell' u=true)/\(n+slN v)*2096<=140737488355328/\n+slN v<=9223372036854775807/\∀(a':
 Option Addr) (c':Nat) (m':Mem),Mem.le aa m'->rowRd m' a' (List.append xs ys)->n+slN v<=c'->Zau (ZfL b)/\∃(n':Nat),n' < ah/\I [slice a' (n+slN v) c',int i64 (IntKind.wrap i64 (ab+(1:
 Int)))] [cs] [slice a' (n+slN v) c'] m' n')) (∃(ac:Nat),∃(o:Nat),p0a=some (Addr.mk ac o none)/\Zae ab p0n/\∃(v:Value),aa ac (o+Int.toNat ab*260+0)=some v/\chk (ZaD i64 v&&decide (i64 =
 i64)) (br (!RowKit.intOf v == (1:Int)) (∃(al:Nat),∃(o:Nat),p0a=some (Addr.mk al o none)/\Zae ab p0n/\∃(vs:List Value),List.length vs=260/\Mem.reads aa al (o+Int.toNat ab*260) vs/\chk
 (Nat.beq (List.length vs) 260&&true) (∀(ad:Nat),Mem.free aa ad->(Tok.mk (slice ae af ag) 260=Tok.mk (slice a n c) 260\/slice a n c=slice none 0 0\/c < n+1)/\∃(xs:List Value),∃(ys:List Value),
 List.length xs=n*260/\List.length ys=1*260/\rowRd (Mem.add aa ad (List.append vs [])) a xs/\rowRd (Mem.add aa ad (List.append vs [])) (some (Addr.mk ad 0 none)) ys/\(∀(u:Value),u∈ys->Value.oneCell' u
 = true)/\(n+1)*2096<=140737488355328/\n+1<=9223372036854775807/\∀(a':Option Addr)(c':Nat)(m':Mem),Mem.le (Mem.add aa ad (List.append vs [])) m'->rowRd m' a' (List.append xs ys)->n+1<=c'->
 Zau (ZfL b)/\∃(n':Nat),n' < ah/\I [slice a' (n+1) c',int i64 (IntKind.wrap i64 (ab+(1:Int)))] [cs] [slice a' (n+1) c'] m' n')) (Zau (ZfL b)/\∃(n':Nat),n' < ah/\I [slice a n
 c,int i64 (IntKind.wrap i64 (ab+(1:Int)))] [cs] [slice ae af ag] aa n')))))) (br ((↑n:Int) == (0:Int)) (∃(m'':Mem),Mem.le m m''/\Mem.le m'' m'/\R (agg (Array.mk Zjm)) m'' []) (br ((↑n:Int) ==
 (1:Int)) (∃(b:Nat),∃(o:Nat),a=some (Addr.mk b o none)/\Zae (0:Int) n/\∃(vs:List Value),List.length vs=260/\Mem.reads m' b (o+0) vs/\chk (Nat.beq (List.length vs) 260&&ZbC vs) (∃(m'':
 Mem),Mem.le m m''/\Mem.le m'' m'/\R (agg (Array.mk vs)) m'' [])) (∃(R_1:RT),True/\CX Try.prog 124 (Array.mk [agg (Array.mk (Zjn a n c))]) m' [] R_1/\Zat Shape.cells R_1/\∀(cs:List Value) (aa:
 Mem),Mem.le m' aa->R_1 (agg (Array.mk cs)) aa []->chk (Nat.beq (List.length cs) 260&&ZbC cs) (∃(m'':Mem),Mem.le m m''/\Mem.le m'' aa/\R (agg (Array.mk cs)) m'' []))))
theorem Zpd(p0a:Option Addr)(p0n p0c:Nat)(m:Mem)(R:RT)(h:Zjo p0a p0n p0c m R):CX Try.prog 118 #[.slice p0a p0n p0c] m [] R:=
 Zad (E:=Zro) ZaE mix Try.func118 [.v (.slice p0a p0n p0c)] [] (by kernel_rfl) (Eq.mp (by kernel_rfl) h)
noncomputable def ZsZ:Env:={ EB with
 loops:=(λi=>bif Nat.beq i 3 then⟨[(3,.slice),(4,.int .i64)],[2],[(35,260)],false⟩ else⟨[],[],[],false⟩)
 tokOf:=(λi=>bif Nat.beq i 35 then 35 else bif Nat.beq i 42 then 35 else 0)
 capF:=true }
abbrev ZhI:List Value:=[int i64 0,int i64 0,int i64 0,int i64 0,int i64 0,int i64 0,int i64 0,int i64 0,int i64 0,int i64 0,int i64 0,int i64 0,int i64 0,int i64 0,int i64 0,int i64 0,int i64
 0,int i64 0,int i64 0,int i64 0,int i64 0,int i64 0,int i64 0,int i64 0,int i64 0,int i64 0,int i64 0,int i64 0,int i64 0,int i64 0,int i64 0,int i64 0,int i64 0,int i64 0,int i64 0,int i64 0,int i64
 0,int i64 0,int i64 0,int i64 0,int i64 0,int i64 0,int i64 0,int i64 0,int i64 0,int i64 0,int i64 0,int i64 0,int i64 0,int i64 0,int i64 0,int i64 0,int i64 0,int i64 0,int i64 0,int i64 0,int i64
 0,int i64 0,int i64 0,int i64 0,int i64 0,int i64 0,int i64 0,int i64 0,int i64 0,int i64 0,int i64 0,int i64 0,int i64 0,int i64 0,int i64 0,int i64 0,int i64 0,int i64 0,int i64 0,int i64 0,int i64
 0,int i64 0,int i64 0,int i64 0,int i64 0,int i64 0,int i64 0,int i64 0,int i64 0,int i64 0,int i64 0,int i64 0,int i64 0,int i64 0,int i64 0,int i64 0,int i64 0,int i64 0,int i64 0,int i64 0,int i64
 0,int i64 0,int i64 0,int i64 0,int i64 0,int i64 0,int i64 0,int i64 0,int i64 0,int i64 0,int i64 0,int i64 0,int i64 0,int i64 0,int i64 0,int i64 0,int i64 0,int i64 0,int i64 0,int i64 0,int i64
 0,int i64 0,int i64 0,int i64 0,int i64 0,int i64 0,int i64 0,int i64 0,int i64 0,int i64 0,int i64 0,int i64 0,int i64 0,int i64 0,int i64 0,int i64 0,int i64 0,int i64 0,int i64 0,int i64 0,int i64
 0,int i64 0,int i64 0,int i64 0,int i64 0,int i64 0,int i64 0,int i64 0,int i64 0,int i64 0,int i64 0,int i64 0,int i64 0,int i64 0,int i64 0,int i64 0,int i64 0,int i64 0,int i64 0,int i64 0,int i64
 0,int i64 0,int i64 0,int i64 0,int i64 0,int i64 0,int i64 0,int i64 0,int i64 0,int i64 0,int i64 0,int i64 0,int i64 0,int i64 0,int i64 0,int i64 0,int i64 0,int i64 0,int i64 0,int i64 0,int i64
 0,int i64 0,int i64 0,int i64 0,int i64 0,int i64 0,int i64 0,int i64 0,int i64 0,int i64 0,int i64 0,int i64 0,int i64 0,int i64 0,int i64 0,int i64 0,int i64 0,int i64 0,int i64 0,int i64 0,int i64
 0,int i64 0,int i64 0,int i64 0,int i64 0,int i64 0,int i64 0,int i64 0,int i64 0,int i64 0,int i64 0,int i64 0,int i64 0,int i64 0,int i64 0,int i64 0,int i64 0,int i64 0,int i64 0,int i64 0,int i64
 0,int i64 0,int i64 0,int i64 0,int i64 0,int i64 0,int i64 0,int i64 0,int i64 0,int i64 0,int i64 0,int i64 0,int i64 0,int i64 0,int i64 0,int i64 0,int i64 0,int i64 0,int i64 0,int i64 0,int i64
 0,int i64 0,int i64 0,int i64 0,int i64 0,int i64 0,int i64 0,int i64 0,int i64 0,int i64 0,int i64 0,int i64 0,int i64 0,int i64 0,int i64 0,int i64 0,int i64 0,int i64 0,int i64 0,int i64 0,int i64
 0,int i64 0,int i64 0,slice none 0 0]
abbrev ZhJ:Nat->List (Option Box):=λ(b:Nat)=>[some (Box.mk b [] 70 260 false true)]
abbrev ZlB(a:Option Addr)(n c:Nat):List Value:=[int i64 4,int i64 0,int i64 0,int i64 0,int i64 0,int i64 0,int i64 0,int i64 0,int i64 0,int i64 0,int i64 0,int i64 0,int i64 0,int i64 0,
 int i64 0,int i64 0,int i64 0,int i64 0,int i64 0,int i64 0,int i64 0,int i64 0,int i64 0,int i64 0,int i64 0,int i64 0,int i64 0,int i64 0,int i64 0,int i64 0,int i64 0,int i64 0,int i64 0,int i64 0,
 int i64 0,int i64 0,int i64 0,int i64 0,int i64 0,int i64 0,int i64 0,int i64 0,int i64 0,int i64 0,int i64 0,int i64 0,int i64 0,int i64 0,int i64 0,int i64 0,int i64 0,int i64 0,int i64 0,int i64 0,
 int i64 0,int i64 0,int i64 0,int i64 0,int i64 0,int i64 0,int i64 0,int i64 0,int i64 0,int i64 0,int i64 0,int i64 0,int i64 0,int i64 0,int i64 0,int i64 0,int i64 0,int i64 0,int i64 0,int i64 0,
 int i64 0,int i64 0,int i64 0,int i64 0,int i64 0,int i64 0,int i64 0,int i64 0,int i64 0,int i64 0,int i64 0,int i64 0,int i64 0,int i64 0,int i64 0,int i64 0,int i64 0,int i64 0,int i64 0,int i64 0,
 int i64 0,int i64 0,int i64 0,int i64 0,int i64 0,int i64 0,int i64 0,int i64 0,int i64 0,int i64 0,int i64 0,int i64 0,int i64 0,int i64 0,int i64 0,int i64 0,int i64 0,int i64 0,int i64 0,int i64 0,
 int i64 0,int i64 0,int i64 0,int i64 0,int i64 0,int i64 0,int i64 0,int i64 0,int i64 0,int i64 0,int i64 0,int i64 0,int i64 0,int i64 0,int i64 0,int i64 0,int i64 0,int i64 0,int i64 0,int i64 0,
 int i64 0,int i64 0,int i64 0,int i64 0,int i64 0,int i64 0,int i64 0,int i64 0,int i64 0,int i64 0,int i64 0,int i64 0,int i64 0,int i64 0,int i64 0,int i64 0,int i64 0,int i64 0,int i64 0,int i64 0,
 int i64 0,int i64 0,int i64 0,int i64 0,int i64 0,int i64 0,int i64 0,int i64 0,int i64 0,int i64 0,int i64 0,int i64 0,int i64 0,int i64 0,int i64 0,int i64 0,int i64 0,int i64 0,int i64 0,int i64 0,
 int i64 0,int i64 0,int i64 0,int i64 0,int i64 0,int i64 0,int i64 0,int i64 0,int i64 0,int i64 0,int i64 0,int i64 0,int i64 0,int i64 0,int i64 0,int i64 0,int i64 0,int i64 0,int i64 0,int i64 0,
 int i64 0,int i64 0,int i64 0,int i64 0,int i64 0,int i64 0,int i64 0,int i64 0,int i64 0,int i64 0,int i64 0,int i64 0,int i64 0,int i64 0,int i64 0,int i64 0,int i64 0,int i64 0,int i64 0,int i64 0,
 int i64 0,int i64 0,int i64 0,int i64 0,int i64 0,int i64 0,int i64 0,int i64 0,int i64 0,int i64 0,int i64 0,int i64 0,int i64 0,int i64 0,int i64 0,int i64 0,int i64 0,int i64 0,int i64 0,int i64 0,
 int i64 0,int i64 0,int i64 0,int i64 0,int i64 0,int i64 0,int i64 0,int i64 0,int i64 0,int i64 0,int i64 0,int i64 0,int i64 0,int i64 0,int i64 0,int i64 0,int i64 0,int i64 0,int i64 0,int i64 0,
 int i64 0,int i64 0,int i64 0,int i64 0,int i64 0,slice a n c]
def ZlC(p0a:Option Addr)(p0n p0c:Nat)(m:Mem)(R:RT):Prop:=
 ∀(b:Nat),∃(I:IT),(∃(n:Nat),I [slice none 0 0,int i64 0] [ZhI] [slice none 0 0] m n)/\∀(a:Option Addr)(n c:Nat)(aa:Int)(cs:List Value)(af:Option Addr)(ag ah:Nat)(m':Mem) (ai:
 Nat),Mem.le m m'->I [slice a n c,int i64 aa] [cs] [slice af ag ah] m' ai->br (decide (aa < (↑p0n:Int))) (∃(aj:Nat),∃(o:Nat),p0a=some (Addr.mk aj o none)/\Zae aa p0n/\∃(vs:List Value),
 List.length vs=260/\Mem.reads m' aj (o+Int.toNat aa*260) vs/\∃(R_1:RT),True/\CX Try.prog 125 (Array.mk [agg (Array.mk vs)]) m' [] R_1/\Zat Shape.bool R_1/\∀(ak:Bool)(ab:Mem),Mem.le m' ab->R_1
 (bool ak) ab []->br ak (Zau (ZhJ b)/\∃(n':Nat),n' < ai/\I [slice a n c,int i64 (IntKind.wrap i64 (aa+(1:Int)))] [cs] [slice af ag ah] ab n') (∃(al:Nat),∃(o:Nat),p0a=some (Addr.mk al o
 none)/\Zae aa p0n/\∃(vs:List Value),List.length vs=260/\Mem.reads ab al (o+Int.toNat aa*260) vs/\∃(R_2:RT),True/\CX Try.prog 79 (Array.mk [agg (Array.mk vs)]) ab [] R_2/\Zat Shape.bool R_2/\∀
 (am:Bool) (m':Mem),Mem.le ab m'->R_2 (bool am) m' []->br (!am) (∃(m'':Mem),Mem.le m m''/\Mem.le m'' m'/\R (agg (Array.mk ZhI)) m'' []) (∃(an:Nat),∃(o:Nat),p0a=some (Addr.mk an o none)/\
 Zae aa p0n/\∃(v:Value),m' an (o+Int.toNat aa*260+0)=some v/\chk (ZaD i64 v&&decide (i64=i64)) (br (RowKit.intOf v == (4:Int)) (∃(ad:Nat),∃(o:Nat),p0a=some (Addr.mk ad o none)/\
 Zae aa p0n/\∃(v:Value),m' ad (o+Int.toNat aa*260+259)=some v/\chk (Zcy v&&true) ((Tok.mk (slice af ag ah) 260=Tok.mk (slice a n c) 260\/slice a n c=slice none 0 0\/c < n+slN v)/\∃(xs:
 List Value),∃(ys:List Value),List.length xs=n*260/\List.length ys=slN v*260/\rowRd m' a xs/\rowRd m' (slA v) ys/\(∀(u:Value),u∈ys->Value.oneCell' u=true)/\(n+slN v)*2096<=140737488355328
 /\ n+slN v<=9223372036854775807/\∀(a':Option Addr)(c':Nat)(ac:Mem),Mem.le m' ac->rowRd ac a' (List.append xs ys)->n+slN v<=c'->Zau (ZhJ b)/\∃(n':Nat),n' < ai/\I [slice a' (n+slN v)
 c',int i64 (IntKind.wrap i64 (aa+(1:Int)))] [cs] [slice a' (n+slN v) c'] ac n')) (∃(ad:Nat),∃(o:Nat),p0a=some (Addr.mk ad o none)/\Zae aa p0n/\∃(vs:List Value),List.length vs=260/\Mem.reads
 m' ad (o+Int.toNat aa*260) vs/\chk (Nat.beq (List.length vs) 260&&true) (∀(ae:Nat),Mem.free m' ae->(Tok.mk (slice af ag ah) 260=Tok.mk (slice a n c) 260\/slice a n c=slice none 0 0\/c < n+1)/\∃(xs
 : List Value),∃(ys:List Value),List.length xs=n*260/\List.length ys=1*260/\rowRd (Mem.add m' ae (List.append vs [])) a xs/\rowRd (Mem.add m' ae (List.append vs [])) (some (Addr.mk ae 0 none)) ys/\(∀(u
 : Value),u∈ys->Value.oneCell' u=true)/\(n+1)*2096<=140737488355328/\n+1<=9223372036854775807/\∀(a':Option Addr)(c':Nat)(ac:Mem),Mem.le (Mem.add m' ae (List.append vs [])) ac->rowRd ac a'
 (List.append xs ys)->n+1<=c'->Zau (ZhJ b)/\∃(n':Nat),n' < ai/\I [slice a' (n+1) c',int i64 (IntKind.wrap i64 (aa+(1:Int)))] [cs] [slice a' (n+1) c'] ac n')))))) (br ((↑n:Int) == (0:
 Int)) (∃(m'':Mem),Mem.le m m''/\Mem.le m'' m'/\R (agg (Array.mk ZhI)) m'' []) (br ((↑n:Int) == (1:Int)) (∃(b:Nat),∃(o:Nat),a=some (Addr.mk b o none)/\Zae (0:Int) n/\∃(vs:List
 Value),List.length vs=260/\Mem.reads m' b (o+0) vs/\chk (Nat.beq (List.length vs) 260&&ZbC vs) (∃(m'':Mem),Mem.le m m''/\Mem.le m'' m'/\R (agg (Array.mk vs)) m'' [])) (∃(R_1:RT),True/\CX Try.prog
 124 (Array.mk [agg (Array.mk (ZlB a n c))]) m' [] R_1/\Zat Shape.cells R_1/\∀(cs:List Value)(ab:Mem),Mem.le m' ab->R_1 (agg (Array.mk cs)) ab []->chk (Nat.beq (List.length cs) 260&&ZbC cs) (∃
 (m'':Mem),Mem.le m m''/\Mem.le m'' ab/\R (agg (Array.mk cs)) m'' []))))
theorem Zrp(p0a:Option Addr)(p0n p0c:Nat)(m:Mem)(R:RT)(h:ZlC p0a p0n p0c m R):CX Try.prog 119 #[.slice p0a p0n p0c] m [] R:=
 Zad (E:=ZsZ) ZaE mix Try.func119 [.v (.slice p0a p0n p0c)] [] (by kernel_rfl) (Eq.mp (by kernel_rfl) h)
noncomputable def ZmX:Env:={ EB with
 joins:=(λi=>bif Nat.beq i 2 then some [(16,.bool)]else bif Nat.beq i 4 then some [(23,.bool)]else bif Nat.beq i 6 then some [(37,.bool)]else bif Nat.beq i 12 then some [(54,.bool)]else none)
 frzNew:=[3] }
abbrev Zde:List Value:=[int i64 0,int i64 0,int i64 0,int i64 0,int i64 0,int i64 0,int i64 0,int i64 0,int i64 0,int i64 0,int i64 0,int i64 0,int i64 0,int i64 0,int i64 0,int i64 0,int
 i64 0,int i64 0,int i64 0,int i64 0,int i64 0,int i64 0,int i64 0,int i64 0,int i64 0,int i64 0,int i64 0,int i64 0,int i64 0,int i64 0,int i64 0,int i64 0,int i64 0,int i64 0,int i64 0,int i64 0,int
 i64 0,int i64 0,int i64 0,int i64 0,int i64 0,int i64 0,int i64 0,int i64 0,int i64 0,int i64 0,int i64 0,int i64 0,int i64 0,int i64 0,int i64 0,int i64 0,int i64 0,int i64 0,int i64 0,int i64 0,int
 i64 0,int i64 0,int i64 0,int i64 0,int i64 0,int i64 0,int i64 0,int i64 0,int i64 0,int i64 0,int i64 0,int i64 0,int i64 0,int i64 0,int i64 0,int i64 0,int i64 0,int i64 0,int i64 0,int i64 0,int
 i64 0,int i64 0,int i64 0,int i64 0,int i64 0,int i64 0,int i64 0,int i64 0,int i64 0,int i64 0,int i64 0,int i64 0,int i64 0,int i64 0,int i64 0,int i64 0,int i64 0,int i64 0,int i64 0,int i64 0,int
 i64 0,int i64 0,int i64 0,int i64 0,int i64 0,int i64 0,int i64 0,int i64 0,int i64 0,int i64 0,int i64 0,int i64 0,int i64 0,int i64 0,int i64 0,int i64 0,int i64 0,int i64 0,int i64 0,int i64 0,int
 i64 0,int i64 0,int i64 0,int i64 0,int i64 0,int i64 0,int i64 0,int i64 0,int i64 0,int i64 0,int i64 0,int i64 0,int i64 0,int i64 0,int i64 0,int i64 0,int i64 0,int i64 0,int i64 0,int i64 0,int
 i64 0,int i64 0,int i64 0,int i64 0,int i64 0,int i64 0,int i64 0,int i64 0,int i64 0,int i64 0,int i64 0,int i64 0,int i64 0,int i64 0,int i64 0,int i64 0,int i64 0,int i64 0,int i64 0,int i64 0,int
 i64 0,int i64 0,int i64 0,int i64 0,int i64 0,int i64 0,int i64 0,int i64 0,int i64 0,int i64 0,int i64 0,int i64 0,int i64 0,int i64 0,int i64 0,int i64 0,int i64 0,int i64 0,int i64 0,int i64 0,int
 i64 0,int i64 0,int i64 0,int i64 0,int i64 0,int i64 0,int i64 0,int i64 0,int i64 0,int i64 0,int i64 0,int i64 0,int i64 0,int i64 0,int i64 0,int i64 0,int i64 0,int i64 0,int i64 0,int i64 0,int
 i64 0,int i64 0,int i64 0,int i64 0,int i64 0,int i64 0,int i64 0,int i64 0,int i64 0,int i64 0,int i64 0,int i64 0,int i64 0,int i64 0,int i64 0,int i64 0,int i64 0,int i64 0,int i64 0,int i64 0,int
 i64 0,int i64 0,int i64 0,int i64 0,int i64 0,int i64 0,int i64 0,int i64 0,int i64 0,int i64 0,int i64 0,int i64 0,int i64 0,int i64 0,int i64 0,int i64 0,int i64 0,int i64 0,int i64 0,int i64 0,int
 i64 0,int i64 0,int i64 0,int i64 0,int i64 0,int i64 0,int i64 0,int i64 0,int i64 0,int i64 0,int i64 0,int i64 0,int i64 0,int i64 0,int i64 0,int i64 0,int i64 0,int i64 0,int i64 0,int i64 0,int
 i64 0,int i64 0,int i64 0,slice none 0 0]
abbrev ZkF:Nat->Option Box:=λ(b:Nat)=>some (Box.mk b Zde 70 260 false true)
abbrev ZkG:List Value->Nat->Option Box:=λ(p0:List Value)(b:Nat)=>some (Box.mk b p0 70 260 true true)
abbrev Zbh:List Value->Nat->Nat->List (Option Box):=λ(p0:List Value)(b b_1:Nat)=>[ZkF b_1,ZkG p0 b]
abbrev Zgc:List Value:=[int i64 1,int i64 0,int i64 0,int i64 0,int i64 0,int i64 0,int i64 0,int i64 0,int i64 0,int i64 0,int i64 0,int i64 0,int i64 0,int i64 0,int i64 0,int i64 0,int
 i64 0,int i64 0,int i64 0,int i64 0,int i64 0,int i64 0,int i64 0,int i64 0,int i64 0,int i64 0,int i64 0,int i64 0,int i64 0,int i64 0,int i64 0,int i64 0,int i64 0,int i64 0,int i64 0,int i64 0,int
 i64 0,int i64 0,int i64 0,int i64 0,int i64 0,int i64 0,int i64 0,int i64 0,int i64 0,int i64 0,int i64 0,int i64 0,int i64 0,int i64 0,int i64 0,int i64 0,int i64 0,int i64 0,int i64 0,int i64 0,int
 i64 0,int i64 0,int i64 0,int i64 0,int i64 0,int i64 0,int i64 0,int i64 0,int i64 0,int i64 0,int i64 0,int i64 0,int i64 0,int i64 0,int i64 0,int i64 0,int i64 0,int i64 0,int i64 0,int i64 0,int
 i64 0,int i64 0,int i64 0,int i64 0,int i64 0,int i64 0,int i64 0,int i64 0,int i64 0,int i64 0,int i64 0,int i64 0,int i64 0,int i64 0,int i64 0,int i64 0,int i64 0,int i64 0,int i64 0,int i64 0,int
 i64 0,int i64 0,int i64 0,int i64 0,int i64 0,int i64 0,int i64 0,int i64 0,int i64 0,int i64 0,int i64 0,int i64 0,int i64 0,int i64 0,int i64 0,int i64 0,int i64 0,int i64 0,int i64 0,int i64 0,int
 i64 0,int i64 0,int i64 0,int i64 0,int i64 0,int i64 0,int i64 0,int i64 0,int i64 0,int i64 0,int i64 0,int i64 0,int i64 0,int i64 0,int i64 0,int i64 0,int i64 0,int i64 0,int i64 0,int i64 0,int
 i64 0,int i64 0,int i64 0,int i64 0,int i64 0,int i64 0,int i64 0,int i64 0,int i64 0,int i64 0,int i64 0,int i64 0,int i64 0,int i64 0,int i64 0,int i64 0,int i64 0,int i64 0,int i64 0,int i64 0,int
 i64 0,int i64 0,int i64 0,int i64 0,int i64 0,int i64 0,int i64 0,int i64 0,int i64 0,int i64 0,int i64 0,int i64 0,int i64 0,int i64 0,int i64 0,int i64 0,int i64 0,int i64 0,int i64 0,int i64 0,int
 i64 0,int i64 0,int i64 0,int i64 0,int i64 0,int i64 0,int i64 0,int i64 0,int i64 0,int i64 0,int i64 0,int i64 0,int i64 0,int i64 0,int i64 0,int i64 0,int i64 0,int i64 0,int i64 0,int i64 0,int
 i64 0,int i64 0,int i64 0,int i64 0,int i64 0,int i64 0,int i64 0,int i64 0,int i64 0,int i64 0,int i64 0,int i64 0,int i64 0,int i64 0,int i64 0,int i64 0,int i64 0,int i64 0,int i64 0,int i64 0,int
 i64 0,int i64 0,int i64 0,int i64 0,int i64 0,int i64 0,int i64 0,int i64 0,int i64 0,int i64 0,int i64 0,int i64 0,int i64 0,int i64 0,int i64 0,int i64 0,int i64 0,int i64 0,int i64 0,int i64 0,int
 i64 0,int i64 0,int i64 0,int i64 0,int i64 0,int i64 0,int i64 0,int i64 0,int i64 0,int i64 0,int i64 0,int i64 0,int i64 0,int i64 0,int i64 0,int i64 0,int i64 0,int i64 0,int i64 0,int i64 0,int
 i64 0,int i64 0,int i64 0,slice none 0 0]
abbrev Zgd(p1 p2:Int)(b:Nat):List Value:=[int i64 5,int i64 0,int i64 0,int i64 0,int i64 0,int i64 0,int i64 0,int i64 0,int i64 0,int i64 0,int i64 0,int i64 0,int i64 0,int i64 0,
 int i64 0,int i64 0,int i64 0,int i64 0,int i64 0,int i64 0,int i64 0,int i64 0,int i64 0,int i64 0,int i64 0,int i64 0,int i64 0,int i64 0,int i64 0,int i64 0,int i64 0,int i64 0,int i64 0,int i64 0,
 int i64 0,int i64 0,int i64 0,int i64 0,int i64 0,int i64 0,int i64 0,int i64 0,int i64 0,int i64 0,int i64 0,int i64 0,int i64 0,int i64 0,int i64 0,int i64 0,int i64 0,int i64 0,int i64 0,int i64 0,
 int i64 0,int i64 0,int i64 0,int i64 0,int i64 0,int i64 0,int i64 0,int i64 0,int i64 0,int i64 0,int i64 0,int i64 0,int i64 0,int i64 0,int i64 0,int i64 0,int i64 0,int i64 0,int i64 0,int i64 0,
 int i64 0,int i64 0,int i64 0,int i64 0,int i64 0,int i64 0,int i64 0,int i64 0,int i64 0,int i64 0,int i64 0,int i64 0,int i64 0,int i64 0,int i64 0,int i64 0,int i64 0,int i64 0,int i64 0,int i64 0,
 int i64 0,int i64 0,int i64 0,int i64 0,int i64 0,int i64 0,int i64 0,int i64 0,int i64 0,int i64 0,int i64 0,int i64 0,int i64 0,int i64 0,int i64 0,int i64 0,int i64 0,int i64 0,int i64 0,int i64 0,
 int i64 0,int i64 0,int i64 0,int i64 0,int i64 0,int i64 0,int i64 0,int i64 0,int i64 0,int i64 0,int i64 0,int i64 0,int i64 0,int i64 0,int i64 0,int i64 0,int i64 0,int i64 0,int i64 0,int i64 0,
 int i64 0,int i64 0,int i64 0,int i64 0,int i64 0,int i64 0,int i64 0,int i64 0,int i64 0,int i64 0,int i64 0,int i64 0,int i64 0,int i64 0,int i64 0,int i64 0,int i64 0,int i64 0,int i64 0,int i64 0,
 int i64 0,int i64 0,int i64 0,int i64 0,int i64 0,int i64 0,int i64 0,int i64 0,int i64 0,int i64 0,int i64 0,int i64 0,int i64 0,int i64 0,int i64 0,int i64 0,int i64 0,int i64 0,int i64 0,int i64 0,
 int i64 0,int i64 0,int i64 0,int i64 0,int i64 0,int i64 0,int i64 0,int i64 0,int i64 0,int i64 0,int i64 0,int i64 0,int i64 0,int i64 0,int i64 0,int i64 0,int i64 0,int i64 0,int i64 0,int i64 0,
 int i64 0,int i64 0,int i64 0,int i64 0,int i64 0,int i64 0,int i64 0,int i64 0,int i64 0,int i64 0,int i64 0,int i64 0,int i64 0,int i64 0,int i64 0,int i64 0,int i64 0,int i64 0,int i64 0,int i64 0,
 int i64 0,int i64 0,int i64 0,int i64 0,int i64 0,int i64 0,int i64 0,int i64 0,int i64 0,int i64 0,int i64 0,int i64 0,int i64 0,int i64 0,int i64 0,int i64 0,int i64 0,int i64 0,int i64 0,int i64 0,
 int i64 0,int i64 0,int i64 0,int i64 0,int i64 0,int i64 0,int i64 0,int i64 0,int i64 0,int i64 0,int i64 0,int i64 0,int i64 0,int i64 0,int i64 0,int i64 0,int i64 0,int i64 0,int i64 0,int i64 0,
 int i64 0,int i64 0,int i64 0,int i64 p1,int i64 p2,slice (some (Addr.mk b 0 none)) 1 1]
def Zge(p0:List Value)(p1 p2:Int)(m:Mem)(R:RT):Prop:=
 chk (Nat.beq (List.length p0) 260) (∀(b:Nat)(m':Mem),Mem.le m m'->Mem.reads m' b 0 p0->∀(b_1:Nat),∃(R_1:RT),True/\CX Try.prog 125 (Array.mk [agg (Array.mk p0)]) m' [] R_1/\Zat Shape.bool R_1/\∀(b_2
 : Bool) (m'_1:Mem),Mem.le m' m'_1->R_1 (bool b_2) m'_1 []->∃(b_3:Bool),br (!b_2) (∃(R:RT),True/\CX Try.prog 79 (Array.mk [agg (Array.mk p0)]) m'_1 [] R/\Zat Shape.bool R/\∀(b_4:Bool)(m':Mem),
 Mem.le m'_1 m'->R (bool b_4) m' []->Zau (Zbh p0 b b_1)/\[bool !b_4]=[bool b_3]) (Zau (Zbh p0 b b_1)/\[bool false]=[bool b_3])/\br b_3 (∃(m'':Mem),Mem.le m m''/\Mem.le m'' m'_1/\
 R (agg (Array.mk Zde)) m'' []) (∃(b_4:Bool),br (p1 == (0:Int)) (Zau (Zbh p0 b b_1)/\[bool (p2 == (0:Int))]=[bool b_4]) (Zau (Zbh p0 b b_1)/\[bool false]=[bool b_4])/\
 br b_4 (∃(m'':Mem),Mem.le m m''/\Mem.le m'' m'_1/\R (agg (Array.mk Zgc)) m'' []) (∃(b_5:Bool),br (p1 == (1:Int)) (br (!p2 == (1:Int)) (∃(R:RT),True/\CX Try.prog 117 (Array.mk [int i64 p1,
 int i64 p2]) m'_1 [] R/\Zat Shape.bool R/\∀(b_6:Bool)(m':Mem),Mem.le m'_1 m'->R (bool b_6) m' []->Zau (Zbh p0 b b_1)/\[bool !b_6]=[bool b_5]) (Zau (Zbh p0 b b_1)/\[bool false]
 = [bool b_5])) (∃(R:RT),True/\CX Try.prog 117 (Array.mk [int i64 p1,int i64 p2]) m'_1 [] R/\Zat Shape.bool R/\∀(b_6:Bool)(m':Mem),Mem.le m'_1 m'->R (bool b_6) m' []->Zau (Zbh p0 b b_1)/\
 [bool !b_6]=[bool b_5])/\br b_5 (∃(m'':Mem),Mem.le m m''/\Mem.le m'' m'_1/\R (agg (Array.mk Zde)) m'' []) (br b_2 (br (p1 == (0:Int)) (∃(m'':Mem),Mem.le m m''/\Mem.le m'' m'_1/\R (agg
 (Array.mk Zgc)) m'' []) (∃(m'':Mem),Mem.le m m''/\Mem.le m'' m'_1/\R (agg (Array.mk Zde)) m'' [])) (∃(b_6:Bool),(Eng.Zv0 p0 0 λ(v:Value)=>chk (ZaD i64 v&&decide (i64=i64))
 (br (RowKit.intOf v == (1:Int)) (Zau (Zbh p0 b b_1)/\[bool true]=[bool b_6]) (br (p1 == (1:Int)) (Zau (Zbh p0 b b_1)/\[bool (p2 == (1:Int))]=[bool b_6]) (Zau (Zbh p0
 b b_1)/\[bool false]=[bool b_6]))))/\br b_6 (chk (Nat.beq (List.length p0) 260&&ZbC p0) (∃(m'':Mem),Mem.le m m''/\Mem.le m'' m'_1/\R (agg (Array.mk p0)) m'' [])) (chk (Nat.beq (List.length p0) 260&&true)
 (∀(b:Nat),Mem.free m'_1 b->∃(R_2:RT),True/\CX Try.prog 124 (Array.mk [agg (Array.mk (Zgd p1 p2 b))]) (Mem.add m'_1 b (List.append p0 [])) [] R_2/\Zat Shape.cells R_2/\∀(cs:List Value) (m':
 Mem),Mem.le (Mem.add m'_1 b (List.append p0 [])) m'->R_2 (agg (Array.mk cs)) m' []->chk (Nat.beq (List.length cs) 260&&ZbC cs) (∃(m'':Mem),Mem.le m m''/\Mem.le m'' m'/\R (agg (Array.mk cs)) m'' []))))))))
theorem ZkH(p0:List Value)(p1 p2:Int)(m:Mem)(R:RT)(h:Zge p0 p1 p2 m R):CX Try.prog 120 #[.agg p0.toArray,.int .i64 p1,.int .i64 p2] m [] R:=
 Zad (E:=ZmX) ZaE mix Try.func120 [.v (.agg p0.toArray),.v (.int .i64 p1),.v (.int .i64 p2)] [] (by kernel_rfl) (Eq.mp (by kernel_rfl) h)
noncomputable def Zjp:Env:={ EB with
 frzNew:=[1] }
abbrev ZeK(b:Nat):List Value:=[int i64 6,int i64 0,int i64 0,int i64 0,int i64 0,int i64 0,int i64 0,int i64 0,int i64 0,int i64 0,int i64 0,int i64 0,int i64 0,int i64 0,int i64 0,int
 i64 0,int i64 0,int i64 0,int i64 0,int i64 0,int i64 0,int i64 0,int i64 0,int i64 0,int i64 0,int i64 0,int i64 0,int i64 0,int i64 0,int i64 0,int i64 0,int i64 0,int i64 0,int i64 0,int i64 0,int
 i64 0,int i64 0,int i64 0,int i64 0,int i64 0,int i64 0,int i64 0,int i64 0,int i64 0,int i64 0,int i64 0,int i64 0,int i64 0,int i64 0,int i64 0,int i64 0,int i64 0,int i64 0,int i64 0,int i64 0,int
 i64 0,int i64 0,int i64 0,int i64 0,int i64 0,int i64 0,int i64 0,int i64 0,int i64 0,int i64 0,int i64 0,int i64 0,int i64 0,int i64 0,int i64 0,int i64 0,int i64 0,int i64 0,int i64 0,int i64 0,int
 i64 0,int i64 0,int i64 0,int i64 0,int i64 0,int i64 0,int i64 0,int i64 0,int i64 0,int i64 0,int i64 0,int i64 0,int i64 0,int i64 0,int i64 0,int i64 0,int i64 0,int i64 0,int i64 0,int i64 0,int
 i64 0,int i64 0,int i64 0,int i64 0,int i64 0,int i64 0,int i64 0,int i64 0,int i64 0,int i64 0,int i64 0,int i64 0,int i64 0,int i64 0,int i64 0,int i64 0,int i64 0,int i64 0,int i64 0,int i64 0,int
 i64 0,int i64 0,int i64 0,int i64 0,int i64 0,int i64 0,int i64 0,int i64 0,int i64 0,int i64 0,int i64 0,int i64 0,int i64 0,int i64 0,int i64 0,int i64 0,int i64 0,int i64 0,int i64 0,int i64 0,int
 i64 0,int i64 0,int i64 0,int i64 0,int i64 0,int i64 0,int i64 0,int i64 0,int i64 0,int i64 0,int i64 0,int i64 0,int i64 0,int i64 0,int i64 0,int i64 0,int i64 0,int i64 0,int i64 0,int i64 0,int
 i64 0,int i64 0,int i64 0,int i64 0,int i64 0,int i64 0,int i64 0,int i64 0,int i64 0,int i64 0,int i64 0,int i64 0,int i64 0,int i64 0,int i64 0,int i64 0,int i64 0,int i64 0,int i64 0,int i64 0,int
 i64 0,int i64 0,int i64 0,int i64 0,int i64 0,int i64 0,int i64 0,int i64 0,int i64 0,int i64 0,int i64 0,int i64 0,int i64 0,int i64 0,int i64 0,int i64 0,int i64 0,int i64 0,int i64 0,int i64 0,int
 i64 0,int i64 0,int i64 0,int i64 0,int i64 0,int i64 0,int i64 0,int i64 0,int i64 0,int i64 0,int i64 0,int i64 0,int i64 0,int i64 0,int i64 0,int i64 0,int i64 0,int i64 0,int i64 0,int i64 0,int
 i64 0,int i64 0,int i64 0,int i64 0,int i64 0,int i64 0,int i64 0,int i64 0,int i64 0,int i64 0,int i64 0,int i64 0,int i64 0,int i64 0,int i64 0,int i64 0,int i64 0,int i64 0,int i64 0,int i64 0,int
 i64 0,int i64 0,int i64 0,int i64 0,int i64 0,int i64 0,int i64 0,int i64 0,int i64 0,int i64 0,int i64 0,int i64 0,int i64 0,int i64 0,int i64 0,int i64 0,int i64 0,int i64 0,int i64 0,int i64 0,int
 i64 0,int i64 0,int i64 0,int i64 0,slice (some (Addr.mk b 0 none)) 1 1]
def ZeL(p0:List Value)(m:Mem)(R:RT):Prop:=
 chk (Nat.beq (List.length p0) 260) (∀(b:Nat)(m':Mem),Mem.le m m'->Mem.reads m' b 0 p0->∀(b:Nat),chk (Nat.beq (List.length p0) 260&&true) (∀(b:Nat),Mem.free m' b->∃(R_1:RT),True/\CX Try.prog 124
 (Array.mk [agg (Array.mk (ZeK b))]) (Mem.add m' b (List.append p0 [])) [] R_1/\Zat Shape.cells R_1/\∀(cs:List Value)(m'_1:Mem),Mem.le (Mem.add m' b (List.append p0 [])) m'_1->R_1 (agg (Array.mk
 cs)) m'_1 []->chk (Nat.beq (List.length cs) 260&&ZbC cs) (∃(m'':Mem),Mem.le m m''/\Mem.le m'' m'_1/\R (agg (Array.mk cs)) m'' [])))
theorem Zih(p0:List Value)(m:Mem)(R:RT)(h:ZeL p0 m R):CX Try.prog 121 #[.agg p0.toArray] m [] R:=
 Zad (E:=Zjp) ZaE mix Try.func121 [.v (.agg p0.toArray)] [] (by kernel_rfl) (Eq.mp (by kernel_rfl) h)
end Go.Proofs.Ytfgfahnakepegaa
set_option linter.unusedVariables false
set_option linter.unusedSimpArgs false
namespace Go.Proofs.Ytfgfahnakepegaa
open Go Go.Eng Go.Rx Go.Proofs Go.RowKit
set_option maxRecDepth 100000
def Zuk(E:T):Value->Mem->List (List Value)->Prop:=λv m' _=>∃cs,v=.agg cs.toArray/\RefT m' E cs
theorem Zbk{E:T}:∀(v:Value)(m':Mem) (css:List (List Value)),Zuk E v m' css->Shape.fits .cells v=true:=λv _ _ ⟨_,h,_⟩=>by rw[h];rfl
theorem ZgW{E:T}{m:Mem}{K:List Value->Mem->Prop}(k:∀(cs:List Value)(m':Mem),m.le m'->RefT m' E cs->K cs m'):∀(cs:List Value)(m':Mem),m.le m'->Zuk E (.agg (Array.mk cs)) m' []->K cs m':=by
 rintro cs m' hm ⟨ds,e,h⟩
 simp only[Value.agg.injEq,Array.mk.injEq]at e
 subst e
 exact k _ m' hm h
theorem ZmY(k mn mx:Int)(a:Option Addr)(n c:Nat):(Value.int .i64 k::(List.replicate 256 (.int .i64 0)++[.int .i64 mn,.int .i64 mx,.slice a n c]))=rcs k (0,0,0,0) mn mx a n c:=by rw[Zuh];rfl
theorem Zwz{k mn mx:Int}(hk:0<=k/\k < 256)(h1 : -9223372036854775808<=mn/\mn<=9223372036854775807)(h2 : -9223372036854775808<=mx/\mx<=9223372036854775807):OkN k 0 0 0 0 mn mx:=⟨hk,⟨by decide,by decide⟩,⟨by decide,by decide⟩,⟨by decide,by decide⟩,⟨by decide,by decide⟩,h1,h2⟩
theorem Zrq{m:Mem}{k mn mx:Int}{l:List T}{a:Option Addr}{c:Nat}{css:List (List Value)}(hk:0<=k/\k < 256)(h1 : -9223372036854775808<=mn/\mn<=9223372036854775807)(h2 : -9223372036854775808<=mx/\mx<=9223372036854775807)(hl:l.length<=1000000)(hr:rowRd m a css.flatten)(bQ:RefAt m l css)(hc:l.length<=c):RefT m (Zb5 k mn mx none 0 l) (rcs k (0,0,0,0) mn mx a l.length c):=
 Za6.2 ⟨Zwz hk h1 h2,hl,a,c,css,rfl,hr,bQ,hc⟩
theorem Zzs(m:Mem):RefT m T1 (rcs 1 (0,0,0,0) 0 0 none 0 0):=Za6.2 ⟨Zwz ⟨by decide,by decide⟩ ⟨by decide,by decide⟩ ⟨by decide,by decide⟩,by decide,none,0,[],rfl,.inl rfl,by simp[T1,T.subs,RefAt],Nat.le_refl _⟩
theorem Zzt:ZhE=rcs 0 (0,0,0,0) 0 0 none 0 0:=ZmY 0 0 0 none 0 0
theorem Zzu:ZhG=rcs 0 (0,0,0,0) 0 0 none 0 0:=ZmY 0 0 0 none 0 0
theorem ZAt:Zjm=rcs 1 (0,0,0,0) 0 0 none 0 0:=ZmY 1 0 0 none 0 0
theorem ZAu(a:Option Addr)(n c:Nat):Zjn a n c=rcs 3 (0,0,0,0) 0 0 a n c:=ZmY 3 0 0 a n c
theorem ZBO(a:Option Addr)(n c:Nat):ZlB a n c=rcs 4 (0,0,0,0) 0 0 a n c:=ZmY 4 0 0 a n c
theorem ZxF(mn mx:Int)(b:Nat):Zgd mn mx b=rcs 5 (0,0,0,0) mn mx (some ⟨b,0,none⟩) 1 1:=ZmY 5 mn mx (some ⟨b,0,none⟩) 1 1
theorem Zs0(b:Nat):ZeK b=rcs 6 (0,0,0,0) 0 0 (some ⟨b,0,none⟩) 1 1:=ZmY 6 0 0 (some ⟨b,0,none⟩) 1 1
theorem Zzv(t:T)(cs:List Value)(m:Mem)(hr:RefT m t cs):CX Try.prog 124 #[.agg cs.toArray] m [] (Zuk (if t.clean then t else T0)):=by
 apply ZmV
 unfold ZhF
 refine hr.chk λb m1 aM _ b1=>Zai (ZgV t cs m1 (hr.mono aM)) λm2 aP=>Zab (λh=>hr.chk1 (Zah (mLt aM aP) ?_)) (λh=>Zah (mLt aM aP) ?_)
 ·rw[h,if_pos rfl];exact⟨cs,rfl,hr⟩
 ·rw[h,Zzt];exact⟨_,rfl,Zzr _⟩
theorem Zeu(t:T)(cs:List Value)(m:Mem)(hr:RefT m t cs)(hg:t.good=true)(hs:t.nodes.length<=10000):CX Try.prog 124 #[.agg cs.toArray] m [] (Zuk t):=by
 have:=Zzv t cs m hr
 rw[Zbg hg hs,if_pos rfl]at this
 exact this
theorem ZwA(t:T)(cs:List Value)(m:Mem)(hr:RefT m t cs):CX Try.prog 125 #[.agg cs.toArray] m [] (Ret (.bool (t.same T0))):=by
 apply ZmW
 unfold ZhH
 rw[Zzu]
 exact hr.chk λb m1 aM _=>Zai (Zuj t T0 cs _ m1 (hr.mono aM) (Zzr _)) λm2 aP=>Zah (mLt aM aP) rfl
theorem Zrr{t:T}(h:t.good=true):t.same T0=false:=by
 have hk:=ZoQ h
 rw[ZxD]
 have:(t.k == T0.k)=false:=by simpa[T0,T.k]using hk
 rw[this];rfl
theorem Zoo{k w:Int}{L:List T}{i:Nat}{x:T}(h:L[i]?=some x):Za5 k w (L.take (i+1))=Za5 k w (L.take i)++ZbV k w x:=by
 rw[List.take_add_one,h]
 show Za5 k w (L.take i++[x])=_
 rw[ZiQ]
 simp[Za5]
theorem Zdf{k w:Int}(L:List T)(i:Nat):(Za5 k w (L.take i)).length<=szL L:=by
 have h1:=ZeS (k:=k) (w:=w) (L.take i)
 have h2:=ZbY (Za5 k w (L.take i))
 have h3:=ZcK L i
 omega
theorem Zdo{m:Mem}{b:Nat}{cs:List Value}:rowRd (m.add b (List.append cs [])) (some ⟨b,0,none⟩) cs:=.inr ⟨b,0,rfl,λj u hj=>by rw[Nat.zero_add,Mem.add_same];show(cs++[])[j]?=_;rw[List.append_nil];exact hj⟩
theorem ZmZ{m:Mem}{a:Option Addr}{css dss:List (List Value)}(h:rowRd m a (List.append css.flatten dss.flatten)):rowRd m a (css++dss).flatten:=by
 rw[List.flatten_append];exact h
theorem ZdT{m:Mem}{a:Option Addr}{css:List (List Value)}{cs:List Value}(h:rowRd m a (List.append css.flatten cs)):rowRd m a (css++[cs]).flatten:=by
 rw[List.flatten_append,List.flatten_singleton];exact h
theorem ZfM{m:Mem}{b o:Nat}{cs:List Value}(h:m.reads b o cs){j:Nat}{v:Value}(hv:cs[j]?=some v):m b (o+j)=some v:=h j v hv
theorem ZlD{k w:Int}(hk:k=3/\w=1\/k=4/\w=0){L:List T}(h:∀x∈L,x.good=true):(ZcR k none 0 (Za5 k w L)).good=true/\(ZcR k none 0 (Za5 k w L)).nodes.length<=1+szL L:=by
 rcases hk with⟨rfl,rfl⟩|⟨rfl,rfl⟩
 ·have:=ZiO h
  have h1:=this.good
  have h2:=this.sz
  unfold Zkc at h1 h2
  rw[Zcw]at h1
  rw[Zfh]at h2
  exact⟨h1,h2⟩
 ·have:=Zfi h
  have h1:=this.good
  have h2:=this.sz
  unfold Zeq at h1 h2
  rw[Zcw]at h1
  rw[Zfh]at h2
  exact⟨h1,h2⟩
set_option maxHeartbeats 1600000 in
theorem Zul(L:List T)(css:List (List Value))(a:Option Addr)(c:Nat)(m:Mem)(hr:rowRd m a css.flatten)(bQ:RefAt m L css)(hg:∀x∈L,x.good=true)(hs:szL L<=9000):CX Try.prog 118 #[.slice a L.length c] m [] (Zuk (Zkc L)):=by
 apply Zpd
 unfold Zjo
 have aU:=ZbY L
 intro b
 refine⟨λxs _ tvs m' q=>∃(i:Nat)(a1:Option Addr)(c1:Nat) (R:List (List Value)),i<=L.length/\xs=[.slice a1 (Za5 3 1 (L.take i)).length c1,.int .i64 i]/\tvs=[.slice a1 (Za5 3 1 (L.take i)).length c1]/\rowRd m' a1 R.flatten/\RefAt m' (Za5 3 1 (L.take i)) R/\(Za5 3 1 (L.take i)).length<=c1/\q=L.length - i,⟨_,0,none,0,[],Nat.zero_le _,rfl,rfl,.inl rfl,by simp[Za5,RefAt],Nat.le_refl _,rfl⟩,?_⟩
 rintro a1 n1 c1 z cs a2 n2 c2 m1 q aM ⟨i,a',c',R,hi,aZ,cA,aR,hR,bN,hq⟩
 simp only[List.cons.injEq,Value.slice.injEq,Value.int.injEq,true_and,and_true]at aZ cA
 obtain⟨⟨rfl,rfl,rfl⟩,rfl⟩:=aZ
 obtain⟨rfl,rfl,rfl⟩:=cA
 subst hq
 refine ZbD (λaS=>?_) (λbM=>?_)
 ·have aQ:i < L.length:=by omega
  obtain⟨x,hx⟩:=Za7 aQ
  have cN:=List.mem_of_getElem? hx
  obtain⟨b0,o0,cs2,rfl,bA,bX⟩:=Zcd hr bQ hx
  have gY:=hg x cN
  have aZ:=ZbL cN
  have dB:Zae (i:Int) L.length:=⟨by omega,by omega⟩
  have iO:=hR.len
  have fK:=Zb4 hR.all
  have cM:=Zoo (k:=3) (w:=1) hx
  have kY:=Zdf (k:=3) (w:=1) L i
  have rp:=Zdf (k:=3) (w:=1) L (i+1)
  have hw:IntKind.i64.wrap ((i:Int)+1)=((i+1:Nat):Int):=by rw[ZaB (by omega) (by omega)];rfl
  simp only[hw,Int.toNat_natCast]
  refine⟨b0,o0,rfl,dB,cs2,bX.len,bA.mono aM,Zai (ZgV x cs2 m1 (bX.mono aM)) λm2 aP=>?_⟩
  rw[Zbg gY (by omega)]
  have bY:=mLt aM aP
  have jR:=ZfM (bA.mono bY) bX.at0
  refine ZaU rfl ⟨b0,o0,rfl,dB,_,jR,Zaa rfl (ZdA (λhk=>?_) (λhk=>⟨b0,o0,rfl,dB,_,jR,Zaa rfl (Zab (λiC=>?_) (λiC=>?_))⟩))⟩
  ·have hk:x.k=3:=hk
   have gX:ZbV 3 1 x=x.subs:=by unfold ZbV;rw[if_pos hk]
   rw[gX]at cM
   obtain⟨_,_,xa,xc,ds,rfl,me,gU,_⟩:=Za6.1 bX
   have pH:=gU.len
   have vE:=Zb4 gU.all
   have bZ:=congrArg List.length cM
   rw[List.length_append]at bZ
   refine⟨b0,o0,rfl,dB,_,ZfM (bA.mono bY) (ZqU _ _ _ _ _ _ _),Zaa rfl ⟨.inl trivial,R.flatten,ds.flatten,by rw[fK,iO],by rw[vE,pH];rfl,aR.mono aP,me.mono bY,ZfI gU,by simp only[slN];omega,by simp only[slN];omega,λa7 c7 m7 cT eW lT=>⟨by trivial,L.length - (i+1),by omega,i+1,a7,c7,R++ds,by omega,?_,?_,ZmZ eW,?_,by rw[bZ];exact lT,rfl⟩⟩⟩
   ·rw[bZ];rfl
   ·rw[bZ];rfl
   ·rw[cM]
    exact(hR.mono (mLt aP cT)).append (gU.mono (mLt bY cT))
  ·have pX:¬x.k=1:=by simpa[intOf]using iC
   have eO:¬x.k=3:=hk
   have gX:ZbV 3 1 x=[x]:=by unfold ZbV;rw[if_neg eO,if_neg pX]
   rw[gX]at cM
   have bZ:=congrArg List.length cM
   rw[List.length_append]at bZ
   simp only[List.length_cons,List.length_nil]at bZ
   refine⟨b0,o0,rfl,dB,cs2,bX.len,bA.mono bY,bX.chk2 λb6 jG=>⟨.inl trivial,R.flatten,cs2,by rw[fK,iO],by rw[bX.len],(aR.mono aP).mono (Mem.le_add jG _),Zdo,bX.one,by omega,by omega,λa7 c7 m7 cT eW lT=>⟨by trivial,L.length - (i+1),by omega,i+1,a7,c7,R++[cs2],by omega,?_,?_,ZdT eW,?_,by rw[bZ];exact lT,rfl⟩⟩⟩
   ·rw[bZ]
   ·rw[bZ]
   ·rw[cM]
    have h7:=mLt (Mem.le_add jG _) cT
    exact(hR.mono (mLt aP h7)).append (RefAt.one (bX.mono (mLt bY h7)))
  ·have pX:x.k=1:=by simpa[intOf]using iC
   have eO:¬x.k=3:=hk
   have gX:ZbV 3 1 x=[]:=by unfold ZbV;rw[if_neg eO,if_pos pX]
   rw[gX,List.append_nil]at cM
   exact⟨by trivial,L.length - (i+1),by omega,i+1,_,_,R,by omega,by rw[cM],by rw[cM],aR.mono aP,by rw[cM];exact hR.mono aP,by rw[cM];exact bN,rfl⟩
 ·have:i=L.length:=by omega
  subst this
  rw[List.take_length]at hR bN ⊢
  have hj:=ZlD (w:=1) (.inl ⟨rfl,rfl⟩) hg
  have oE:=ZeS (k:=3) (w:=1) L
  have fK:=ZbY (Za5 3 1 L)
  have he:Zkc L=(ZcR 3 none 0 (Za5 3 1 L)).er:=rfl
  generalize Za5 3 1 L=F at *
  match F,hR,bN with
  | [],hR,_=>
   refine Zev rfl (Zah aM ?_)
   rw[ZAt,he]
   exact⟨_,rfl,Zzs _⟩
  | [x],hR,_=>
   refine ZaU rfl (Zev rfl ?_)
   obtain⟨b0,o0,cs2,rfl,bA,bX⟩:=Zcd aR hR (i:=0) (t:=x) rfl
   refine⟨b0,o0,rfl,⟨by omega,by simp⟩,cs2,bX.len,by simpa using bA,bX.chk1 ⟨m1,aM,Mem.le_refl _,cs2,rfl,?_⟩⟩
   rw[he]
   exact bX.of_er (by show x.er=x.er.er;rw[Zd8])
  | x::y::F,hR,bN=>
   refine ZaU (by simp;omega) (ZaU (by simp;omega) ?_)
   rw[ZAu]
   have h1:=Zrq (k:=3) (mn:=0) (mx:=0) (c:=c2) ⟨by decide,by decide⟩ ⟨by decide,by decide⟩ ⟨by decide,by decide⟩ (by omega) aR hR bN
   refine Zag (Zeu _ _ m1 h1 hj.1 (by have:=hj.2;show(ZcR 3 none 0 (x::y::F)).nodes.length<=_;omega)) Zbk (ZgW λcs3 m3 aX h3=>h3.chk1 ⟨m3,mLt aM aX,Mem.le_refl _,cs3,rfl,?_⟩)
   rw[he]
   exact(ZfU _ _).2 h3
set_option maxHeartbeats 1600000 in
theorem Zzw(L:List T)(css:List (List Value))(a:Option Addr)(c:Nat)(m:Mem)(hr:rowRd m a css.flatten)(bQ:RefAt m L css)(hg:∀x∈L,x.good=true)(hs:szL L<=9000)(bS:L≠[]):CX Try.prog 119 #[.slice a L.length c] m [] (Zuk (Zeq L)):=by
 apply Zrp
 unfold ZlC
 have aU:=ZbY L
 intro b
 refine⟨λxs _ tvs m' q=>∃(i:Nat)(a1:Option Addr)(c1:Nat) (R:List (List Value)),i<=L.length/\xs=[.slice a1 (Za5 4 0 (L.take i)).length c1,.int .i64 i]/\tvs=[.slice a1 (Za5 4 0 (L.take i)).length c1]/\rowRd m' a1 R.flatten/\RefAt m' (Za5 4 0 (L.take i)) R/\(Za5 4 0 (L.take i)).length<=c1/\q=L.length - i,⟨_,0,none,0,[],Nat.zero_le _,rfl,rfl,.inl rfl,by simp[Za5,RefAt],Nat.le_refl _,rfl⟩,?_⟩
 rintro a1 n1 c1 z cs a2 n2 c2 m1 q aM ⟨i,a',c',R,hi,aZ,cA,aR,hR,bN,hq⟩
 simp only[List.cons.injEq,Value.slice.injEq,Value.int.injEq,true_and,and_true]at aZ cA
 obtain⟨⟨rfl,rfl,rfl⟩,rfl⟩:=aZ
 obtain⟨rfl,rfl,rfl⟩:=cA
 subst hq
 refine ZbD (λaS=>?_) (λbM=>?_)
 ·have aQ:i < L.length:=by omega
  obtain⟨x,hx⟩:=Za7 aQ
  have cN:=List.mem_of_getElem? hx
  obtain⟨b0,o0,cs2,rfl,bA,bX⟩:=Zcd hr bQ hx
  have gY:=hg x cN
  have aZ:=ZbL cN
  have dB:Zae (i:Int) L.length:=⟨by omega,by omega⟩
  have iO:=hR.len
  have fK:=Zb4 hR.all
  have cM:=Zoo (k:=4) (w:=0) hx
  have kY:=Zdf (k:=4) (w:=0) L i
  have rp:=Zdf (k:=4) (w:=0) L (i+1)
  have hw:IntKind.i64.wrap ((i:Int)+1)=((i+1:Nat):Int):=by rw[ZaB (by omega) (by omega)];rfl
  simp only[hw,Int.toNat_natCast]
  refine⟨b0,o0,rfl,dB,cs2,bX.len,bA.mono aM,Zai (ZwA x cs2 m1 (bX.mono aM)) λm2 aP=>?_⟩
  rw[Zrr gY]
  have bY:=mLt aM aP
  refine ZaU rfl ⟨b0,o0,rfl,dB,cs2,bX.len,bA.mono bY,Zai (ZgV x cs2 m2 (bX.mono bY)) λm3 aX=>?_⟩
  rw[Zbg gY (by omega)]
  have qQ:=mLt aP aX
  have bT:=mLt bY aX
  have jR:=ZfM (bA.mono bT) bX.at0
  refine ZaU rfl ⟨b0,o0,rfl,dB,_,jR,Zaa rfl (ZdA (λhk=>?_) (λhk=>?_))⟩
  ·have hk:x.k=4:=hk
   have gX:ZbV 4 0 x=x.subs:=by unfold ZbV;rw[if_pos hk]
   rw[gX]at cM
   obtain⟨_,_,xa,xc,ds,rfl,me,gU,_⟩:=Za6.1 bX
   have pH:=gU.len
   have vE:=Zb4 gU.all
   have bZ:=congrArg List.length cM
   rw[List.length_append]at bZ
   refine⟨b0,o0,rfl,dB,_,ZfM (bA.mono bT) (ZqU _ _ _ _ _ _ _),Zaa rfl ⟨.inl trivial,R.flatten,ds.flatten,by rw[fK,iO],by rw[vE,pH];rfl,aR.mono qQ,me.mono bT,ZfI gU,by simp only[slN];omega,by simp only[slN];omega,λa7 c7 m7 cT eW lT=>⟨by trivial,L.length - (i+1),by omega,i+1,a7,c7,R++ds,by omega,?_,?_,ZmZ eW,?_,by rw[bZ];exact lT,rfl⟩⟩⟩
   ·rw[bZ];rfl
   ·rw[bZ];rfl
   ·rw[cM]
    exact(hR.mono (mLt qQ cT)).append (gU.mono (mLt bT cT))
  ·have qz:¬x.k=4:=hk
   have gX:ZbV 4 0 x=[x]:=by unfold ZbV;rw[if_neg qz,if_neg (ZoQ gY)]
   rw[gX]at cM
   have bZ:=congrArg List.length cM
   rw[List.length_append]at bZ
   simp only[List.length_cons,List.length_nil]at bZ
   refine⟨b0,o0,rfl,dB,cs2,bX.len,bA.mono bT,bX.chk2 λb6 jG=>⟨.inl trivial,R.flatten,cs2,by rw[fK,iO],by rw[bX.len],(aR.mono qQ).mono (Mem.le_add jG _),Zdo,bX.one,by omega,by omega,λa7 c7 m7 cT eW lT=>⟨by trivial,L.length - (i+1),by omega,i+1,a7,c7,R++[cs2],by omega,?_,?_,ZdT eW,?_,by rw[bZ];exact lT,rfl⟩⟩⟩
   ·rw[bZ]
   ·rw[bZ]
   ·rw[cM]
    have h7:=mLt (Mem.le_add jG _) cT
    exact(hR.mono (mLt qQ h7)).append (RefAt.one (bX.mono (mLt bT h7)))
 ·have:i=L.length:=by omega
  subst this
  rw[List.take_length]at hR bN ⊢
  have hj:=ZlD (w:=0) (.inr ⟨rfl,rfl⟩) hg
  have oE:=ZeS (k:=4) (w:=0) L
  have fK:=ZbY (Za5 4 0 L)
  have he:Zeq L=(ZcR 4 none 0 (Za5 4 0 L)).er:=rfl
  have iZ:Za5 4 0 L≠[]:=by
   match L,bS with
   | x::l,_=>
    rw[ZcD]
    have:=ZpD (hg x (by simp))
    simp[this]
  generalize Za5 4 0 L=F at *
  match F,hR,bN with
  | [],hR,_=>exact absurd rfl iZ
  | [x],hR,_=>
   refine ZaU rfl (Zev rfl ?_)
   obtain⟨b0,o0,cs2,rfl,bA,bX⟩:=Zcd aR hR (i:=0) (t:=x) rfl
   refine⟨b0,o0,rfl,⟨by omega,by simp⟩,cs2,bX.len,by simpa using bA,bX.chk1 ⟨m1,aM,Mem.le_refl _,cs2,rfl,?_⟩⟩
   rw[he]
   exact bX.of_er (by show x.er=x.er.er;rw[Zd8])
  | x::y::F,hR,bN=>
   refine ZaU (by simp;omega) (ZaU (by simp;omega) ?_)
   rw[ZBO]
   have h1:=Zrq (k:=4) (mn:=0) (mx:=0) (c:=c2) ⟨by decide,by decide⟩ ⟨by decide,by decide⟩ ⟨by decide,by decide⟩ (by omega) aR hR bN
   refine Zag (Zeu _ _ m1 h1 hj.1 (by have:=hj.2;show(ZcR 4 none 0 (x::y::F)).nodes.length<=_;omega)) Zbk (ZgW λcs3 m3 aX h3=>h3.chk1 ⟨m3,mLt aM aX,Mem.le_refl _,cs3,rfl,?_⟩)
   rw[he]
   exact(ZfU _ _).2 h3
theorem Zrs(t:T)(cs:List Value)(m:Mem)(hr:RefT m t cs)(hg:t.good=true)(hs:t.nodes.length<=9000):CX Try.prog 121 #[.agg cs.toArray] m [] (Zuk (Zb5 6 0 0 none 0 [t])):=by
 apply Zih
 unfold ZeL
 refine hr.chk λb m1 aM _ b1=>hr.chk2 λb2 nZ=>?_
 have bE:=mLt aM (Mem.le_add nZ (List.append cs []))
 rw[Zs0]
 have h1:=Zrq (k:=6) (mn:=0) (mx:=0) (l:=[t]) (css:=[cs]) (a:=some ⟨b2,0,none⟩) (c:=1) ⟨by decide,by decide⟩ ⟨by decide,by decide⟩ ⟨by decide,by decide⟩ (by simp) (by rw[List.flatten_singleton];exact Zdo) (RefAt.one (hr.mono bE)) (Nat.le_refl _)
 refine Zag (Zeu _ _ _ h1 (ZpH hg) (by rw[Zcr];show 1+szL [t]<=_;rw[ZdN];omega)) Zbk (ZgW λcs3 m3 aX h3=>h3.chk1 ⟨m3,mLt bE aX,Mem.le_refl _,cs3,rfl,h3⟩)
theorem ZvS(t:T)(cs:List Value)(mn mx:Int)(m:Mem)(hr:RefT m t cs)(hg:t.good=true)(hs:t.nodes.length<=9000)(hb:Zcm mn mx=true)(hk:t.k≠1):CX Try.prog 120 #[.agg cs.toArray,.int .i64 mn,.int .i64 mx] m [] (Zuk (Zb5 5 mn mx none 0 [t])):=by
 apply ZkH
 unfold Zge
 have dI:(0<=mn/\mn<=16/\-1<=mx/\mx<=16)/\¬(mn=1/\mx=1)/\mx≠0:=by
  unfold Zcm at hb
  simp only[Bool.and_eq_true,Bool.not_eq_true',Bool.or_eq_false_iff,Bool.or_eq_true,decide_eq_false_iff_not,decide_eq_true_eq,beq_iff_eq,Bool.and_eq_false_iff,beq_eq_false_iff_ne]at hb
  omega
 refine hr.chk λb m1 aM _ b1=>Zai (ZwA t cs m1 (hr.mono aM)) λm2 aP=>?_
 rw[Zrr hg]
 have bY:=mLt aM aP
 have qM:=Zon mn mx m2
 rw[hb]at qM
 refine⟨false,Zev rfl (Zai (ZgV t cs m2 (hr.mono bY)) λm3 aX=>⟨by trivial,by rw[Zbg hg (by omega)];rfl⟩),ZaU rfl ⟨false,ZdA (λh=>⟨by trivial,?_⟩) (λh=>⟨by trivial,rfl⟩),ZaU rfl ⟨false,ZdA (λh=>Zab (λh2=>Zai qM λm3 aX=>⟨by trivial,rfl⟩) (λh2=>⟨by trivial,rfl⟩)) (λh=>Zai qM λm3 aX=>⟨by trivial,rfl⟩),ZaU rfl (ZaU rfl ⟨false,?_,ZaU rfl (hr.chk2 λb5 qR=>?_)⟩)⟩⟩⟩
 ·have:(mx == 0)=false:=by simpa using dI.2.2
  rw[this]
 ·refine Zar hr.at0 (Zaa rfl (ZdA (λh=>absurd h hk) (λh=>ZdA (λh2=>⟨by trivial,?_⟩) (λh2=>⟨by trivial,rfl⟩))))
  have:(mx == 1)=false:=by
   have:=dI.2.1
   simpa[h2]using this
  rw[this]
 ·have bE:=mLt bY (Mem.le_add qR (List.append cs []))
  rw[ZxF]
  have h1:=Zrq (k:=5) (mn:=mn) (mx:=mx) (l:=[t]) (css:=[cs]) (a:=some ⟨b5,0,none⟩) (c:=1) ⟨by decide,by decide⟩ (by omega) (by omega) (by simp) (by rw[List.flatten_singleton];exact Zdo) (RefAt.one (hr.mono bE)) (Nat.le_refl _)
  exact Zag (Zeu _ _ _ h1 (ZqM hb hk hg) (by rw[Zcr];show 1+szL [t]<=_;rw[ZdN];omega)) Zbk (ZgW λcs3 m3 aX h3=>h3.chk1 ⟨m3,mLt bE aX,Mem.le_refl _,cs3,rfl,h3⟩)
end Go.Proofs.Ytfgfahnakepegaa
