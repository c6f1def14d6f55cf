/- Part of the proof: conditions and contracts of functions of this program. No condition of its own. -/
import Derived.Test.YtfgfahnakepegaaPC13TC
import Derived.Test.YtfgfahnakepegaaPEnv
import Derived.Test.YtfgfahnakepegaaMr
set_option linter.unusedVariables false
set_option linter.unusedSimpArgs false
namespace Go.Proofs.Ytfgfahnakepegaa
open Go Go.Eng Go.Rx Go.Proofs Go.RowKit
set_option maxRecDepth 100000
theorem ZBT(t u:T):decide (t.q=u.q)=(t.s0 == u.s0&&t.s1 == u.s1&&t.s2 == u.s2&&t.s3 == u.s3):=by
 unfold T.q
 rw[Bool.eq_iff_iff]
 simp[Prod.ext_iff,and_assoc]
theorem ZwY(t u:T):t.same u=(t.k == u.k&&(decide (t.q=u.q)&&(t.mn == u.mn&&(t.mx == u.mx&&ZdR t.subs u.subs)))):=by rw[ZvD,ZBT]
def ZtC(t u:T):Bool:=t.k == u.k&&(decide (t.q=u.q)&&(t.mn == u.mn&&(t.mx == u.mx&&t.subs.length == u.subs.length)))
theorem ZwZ{t u:T}(h:ZtC t u=false):t.same u=false:=by
 rw[ZwY]
 unfold ZtC at h
 cases h1:t.k == u.k <;> rw[h1]at h <;> simp only[Bool.false_and,Bool.true_and]at h ⊢
 cases h2:decide (t.q=u.q) <;> rw[h2]at h <;> simp only[Bool.false_and,Bool.true_and]at h ⊢
 cases h3:t.mn == u.mn <;> rw[h3]at h <;> simp only[Bool.false_and,Bool.true_and]at h ⊢
 cases h4:t.mx == u.mx <;> rw[h4]at h <;> simp only[Bool.false_and,Bool.true_and]at h ⊢
 exact ZlA (by simpa using h)
theorem Zvc{t u:T}(h:ZtC t u=true):t.subs.length=u.subs.length/\t.same u=ZdR t.subs u.subs:=by
 rw[ZwY]
 unfold ZtC at h
 simp only[Bool.and_eq_true]at h
 obtain⟨h1,h2,h3,h4,h5⟩:=h
 rw[h1,h2,h3,h4]
 exact⟨by simpa using h5,by simp⟩
set_option maxHeartbeats 2000000 in
theorem ZtD:∀(t u:T)(cs ds:List Value)(m:Mem),RefT m t cs->RefT m u ds->CX Try.prog 83 #[.agg cs.toArray,.agg ds.toArray] m [] (Ret (.bool (t.same u))):=by
 intro t
 induction hn:SizeOf.sizeOf t using Nat.strongRecOn generalizing t with
 | ind n ih=>
 intro u cs ds m hr hu
 obtain⟨aZ,aU,a,c,css,rfl,aR,bP,_⟩:=ZaX.1 hr
 obtain⟨vA,gJ,a',c',dss,rfl,lN,pF,_⟩:=ZaX.1 hu
 apply Zmh
 unfold Zhg
 refine ZiS λb m1 aO _=>ZiS λb2 m2 aP _=>?_
 have bY:=mLt aO aP
 refine⟨!ZtC t u,?_,Zab (λh=>Zaj bY ?_) (λh=>?_)⟩
 ·unfold ZtC
  refine Zba (Zba (Zaa rfl (Zab (λh1=>⟨by trivial,?_⟩) (λh1=>Zaa (by rw[Ze8];rfl) (Zaa (by rw[Ze8];rfl) ⟨decide (t.q=u.q),by rw[ZkU,ZkU];exact ZBo (Zti aZ) (Zti vA),Zab (λh2=>⟨by trivial,?_⟩) (λh2=>ZqI (ZqI (Zaa rfl (Zab (λh3=>⟨by trivial,?_⟩) (λh3=>ZqJ (ZqJ (Zaa rfl (Zab (λh4=>⟨by trivial,?_⟩) (λh4=>Zbq (Zaa rfl (Zbq (Zaa rfl ⟨by trivial,?_⟩))))))))))))⟩)))))
  ·have h1':(!t.k == u.k)=true:=h1
   have:(t.k == u.k)=false:=by rw[<-Bool.not_not (_ == _),h1'];rfl
   rw[this];rfl
  all_goals
   have e1:(t.k == u.k)=true:=by rw[<-Bool.not_not (t.k == u.k),show(!t.k == u.k)=false from h1];rfl
   rw[e1,Bool.true_and]
  ·have:decide (t.q=u.q)=false:=by rw[<-Bool.not_not (decide _),h2];rfl
   rw[this];rfl
  all_goals
   have e2:decide (t.q=u.q)=true:=by rw[<-Bool.not_not (decide _),h2];rfl
   rw[e2,Bool.true_and]
  ·have:(t.mn == u.mn)=false:=by rw[<-Bool.not_not (_ == _),show(!t.mn == u.mn)=true from h3];rfl
   rw[this];rfl
  all_goals
   have e3:(t.mn == u.mn)=true:=by rw[<-Bool.not_not (_ == _),show(!t.mn == u.mn)=false from h3];rfl
   rw[e3,Bool.true_and]
  ·have:(t.mx == u.mx)=false:=by rw[<-Bool.not_not (_ == _),show(!t.mx == u.mx)=true from h4];rfl
   rw[this];rfl
  ·have e4:(t.mx == u.mx)=true:=by rw[<-Bool.not_not (_ == _),show(!t.mx == u.mx)=false from h4];rfl
   rw[e4,Bool.true_and]
   have e5:((t.subs.length:Int) == (u.subs.length:Int))=(t.subs.length == u.subs.length):=by rw[Bool.eq_iff_iff];simp;omega
   show[Value.bool (!((t.subs.length:Int) == (u.subs.length:Int)))]=_
   rw[e5]
 ·rw[ZwZ (by rw[<-Bool.not_not (ZtC t u),h];rfl)]
 ·obtain⟨gE,gU⟩:=Zvc (t:=t) (u:=u) (by rw[<-Bool.not_not (ZtC t u),h];rfl)
  refine⟨λxs _ _ m' q=>∃k:Nat,k<=t.subs.length/\xs=[.int .i64 k]/\m.le m'/\ZdR (t.subs.take k) (u.subs.take k)=true/\q=t.subs.length - k,⟨_,0,Nat.zero_le _,rfl,bY,by simp[ZdR],rfl⟩,?_⟩
  rintro z m3 q _ ⟨k,hk,hz,aX,aV,hq⟩
  obtain rfl:z=k:=by simpa using hz
  subst hq
  refine Zbq (Zaa rfl (ZbF (λaS=>?_) (λbR=>?_)))
  ·have aQ:k < t.subs.length:=by simp only[slN]at aS;omega
   obtain⟨x,hx⟩:=ZaY aQ
   obtain⟨y,hy⟩:=ZaY (l:=u.subs) (k:=k) (by omega)
   obtain⟨bb,o,cs2,ha,bC,bW⟩:=Zb1 aR bP hx
   obtain⟨bb',o',ds2,ha',mR,jX⟩:=Zb1 lN pF hy
   have eK:=Zdk (List.mem_of_getElem? hx)
   refine⟨λ_ _ _=>Ret (.bool (x.same y)),Zbq (Zaa rfl ⟨bb,o,ha,⟨by omega,by simp only[slN];omega⟩,cs2,bW.len,(by rw[Int.toNat_natCast];exact bC.mono aX),Zbq (Zaa rfl ⟨bb',o',ha',⟨by omega,by simp only[slN];omega⟩,ds2,jX.len,(by rw[Int.toNat_natCast];exact mR.mono aX),_,rfl,ih _ (by omega) x rfl y cs2 ds2 m3 (bW.mono aX) (jX.mono aX),λv _ _ e=>by rw[e];rfl,?_⟩)⟩)⟩
   intro b5 m4 bK hR M dS eC
   obtain rfl:b5=x.same y:=by
    have hR:Value.bool b5=.bool (x.same y):=hR
    simpa using hR
   refine Zab (λhf=>Zaj (mLt aX dS) ?_) (λhf=>⟨by trivial,_,by omega,k+1,aQ,by rw[ZaA (by omega) (by omega)];rfl,mLt aX dS,Zjp hx hy aV (by rw[<-Bool.not_not (x.same y),hf];rfl) trivial,rfl⟩)
   rw[gU,ZoW hx hy (by rw[<-Bool.not_not (x.same y),hf];rfl)]
  ·have:k=t.subs.length:=by simp only[slN]at bR;omega
   subst this
   rw[List.take_length,gE,List.take_length]at aV
   exact Zaj aX (by rw[gU,aV])
theorem Zvd(m:Mem):RefT m T0 (rcs 0 (0,0,0,0) 0 0 none 0 0):=ZaX.2 ⟨⟨⟨by decide,by decide⟩,⟨by decide,by decide⟩,⟨by decide,by decide⟩,⟨by decide,by decide⟩,⟨by decide,by decide⟩,⟨by decide,by decide⟩,⟨by decide,by decide⟩⟩,by decide,none,0,[],rfl,.inl rfl,by simp only[T0,T.subs,RefAt],Nat.le_refl _⟩
end Go.Proofs.Ytfgfahnakepegaa
set_option linter.unusedVariables false
namespace Go.Proofs.Ytfgfahnakepegaa
open Go Go.Eng Go.Proofs Go.RowKit
open Go.Value (int slice agg bool string tuple func)
open Go.IntKind (u8 u64 i64)
set_option maxRecDepth 100000
noncomputable def Zov:Env:={ EB with
 frzNew:=[1] }
abbrev Zhh:List Value:=[int i64 0,int i64 0,int i64 0,int i64 0,int i64 0,int i64 0,int i64 0,int i64 0,int i64 0,int i64 0,int i64 0,int i64 0,int i64 0,int i64 0,int i64 0,int i64 0,int
 i64 0,int i64 0,int i64 0,int i64 0,int i64 0,int i64 0,int i64 0,int i64 0,int i64 0,int i64 0,int i64 0,int i64 0,int i64 0,int i64 0,int i64 0,int i64 0,int i64 0,int i64 0,int i64 0,int i64 0,int
 i64 0,int i64 0,int i64 0,int i64 0,int i64 0,int i64 0,int i64 0,int i64 0,int i64 0,int i64 0,int i64 0,int i64 0,int i64 0,int i64 0,int i64 0,int i64 0,int i64 0,int i64 0,int i64 0,int i64 0,int
 i64 0,int i64 0,int i64 0,int i64 0,int i64 0,int i64 0,int i64 0,int i64 0,int i64 0,int i64 0,int i64 0,int i64 0,int i64 0,int i64 0,int i64 0,int i64 0,int i64 0,int i64 0,int i64 0,int i64 0,int
 i64 0,int i64 0,int i64 0,int i64 0,int i64 0,int i64 0,int i64 0,int i64 0,int i64 0,int i64 0,int i64 0,int i64 0,int i64 0,int i64 0,int i64 0,int i64 0,int i64 0,int i64 0,int i64 0,int i64 0,int
 i64 0,int i64 0,int i64 0,int i64 0,int i64 0,int i64 0,int i64 0,int i64 0,int i64 0,int i64 0,int i64 0,int i64 0,int i64 0,int i64 0,int i64 0,int i64 0,int i64 0,int i64 0,int i64 0,int i64 0,int
 i64 0,int i64 0,int i64 0,int i64 0,int i64 0,int i64 0,int i64 0,int i64 0,int i64 0,int i64 0,int i64 0,int i64 0,int i64 0,int i64 0,int i64 0,int i64 0,int i64 0,int i64 0,int i64 0,int i64 0,int
 i64 0,int i64 0,int i64 0,int i64 0,int i64 0,int i64 0,int i64 0,int i64 0,int i64 0,int i64 0,int i64 0,int i64 0,int i64 0,int i64 0,int i64 0,int i64 0,int i64 0,int i64 0,int i64 0,int i64 0,int
 i64 0,int i64 0,int i64 0,int i64 0,int i64 0,int i64 0,int i64 0,int i64 0,int i64 0,int i64 0,int i64 0,int i64 0,int i64 0,int i64 0,int i64 0,int i64 0,int i64 0,int i64 0,int i64 0,int i64 0,int
 i64 0,int i64 0,int i64 0,int i64 0,int i64 0,int i64 0,int i64 0,int i64 0,int i64 0,int i64 0,int i64 0,int i64 0,int i64 0,int i64 0,int i64 0,int i64 0,int i64 0,int i64 0,int i64 0,int i64 0,int
 i64 0,int i64 0,int i64 0,int i64 0,int i64 0,int i64 0,int i64 0,int i64 0,int i64 0,int i64 0,int i64 0,int i64 0,int i64 0,int i64 0,int i64 0,int i64 0,int i64 0,int i64 0,int i64 0,int i64 0,int
 i64 0,int i64 0,int i64 0,int i64 0,int i64 0,int i64 0,int i64 0,int i64 0,int i64 0,int i64 0,int i64 0,int i64 0,int i64 0,int i64 0,int i64 0,int i64 0,int i64 0,int i64 0,int i64 0,int i64 0,int
 i64 0,int i64 0,int i64 0,int i64 0,int i64 0,int i64 0,int i64 0,int i64 0,int i64 0,int i64 0,int i64 0,int i64 0,int i64 0,int i64 0,int i64 0,int i64 0,int i64 0,int i64 0,int i64 0,int i64 0,int
 i64 0,int i64 0,int i64 0,slice none 0 0]
def Zhi(p0:List Value)(m:Mem)(R:RT):Prop:=
 chk (Nat.beq (List.length p0) 260) (∀(b:Nat)(m':Mem),Mem.le m m'->Mem.reads m' b 0 p0->∀(b:Nat),∃(R_1:RT),True/\CX Try.prog 79 (Array.mk [agg (Array.mk p0)]) m' [] R_1/\Zau Shape.bool R_1/\∀(b:
 Bool) (m'_1:Mem),Mem.le m' m'_1->R_1 (bool b) m'_1 []->br b (chk (Nat.beq (List.length p0) 260&&ZbA p0) (∃(m'':Mem),Mem.le m m''/\Mem.le m'' m'_1/\R (agg (Array.mk p0)) m'' [])) (∃(m'':Mem),Mem.le m
 m''/\Mem.le m'' m'_1/\R (agg (Array.mk Zhh)) m'' []))
theorem Zmk(p0:List Value)(m:Mem)(R:RT)(h:Zhi p0 m R):CX Try.prog 124 #[.agg p0.toArray] m [] R:=
 Zaf (E:=Zov) ZaH mix Try.func124 [.v (.agg p0.toArray)] [] (by kernel_rfl) (Eq.mp (by kernel_rfl) h)
noncomputable def Zow:Env:={ EB with
 frzNew:=[1] }
abbrev Zhj:List Value:=[int i64 0,int i64 0,int i64 0,int i64 0,int i64 0,int i64 0,int i64 0,int i64 0,int i64 0,int i64 0,int i64 0,int i64 0,int i64 0,int i64 0,int i64 0,int i64 0,int
 i64 0,int i64 0,int i64 0,int i64 0,int i64 0,int i64 0,int i64 0,int i64 0,int i64 0,int i64 0,int i64 0,int i64 0,int i64 0,int i64 0,int i64 0,int i64 0,int i64 0,int i64 0,int i64 0,int i64 0,int
 i64 0,int i64 0,int i64 0,int i64 0,int i64 0,int i64 0,int i64 0,int i64 0,int i64 0,int i64 0,int i64 0,int i64 0,int i64 0,int i64 0,int i64 0,int i64 0,int i64 0,int i64 0,int i64 0,int i64 0,int
 i64 0,int i64 0,int i64 0,int i64 0,int i64 0,int i64 0,int i64 0,int i64 0,int i64 0,int i64 0,int i64 0,int i64 0,int i64 0,int i64 0,int i64 0,int i64 0,int i64 0,int i64 0,int i64 0,int i64 0,int
 i64 0,int i64 0,int i64 0,int i64 0,int i64 0,int i64 0,int i64 0,int i64 0,int i64 0,int i64 0,int i64 0,int i64 0,int i64 0,int i64 0,int i64 0,int i64 0,int i64 0,int i64 0,int i64 0,int i64 0,int
 i64 0,int i64 0,int i64 0,int i64 0,int i64 0,int i64 0,int i64 0,int i64 0,int i64 0,int i64 0,int i64 0,int i64 0,int i64 0,int i64 0,int i64 0,int i64 0,int i64 0,int i64 0,int i64 0,int i64 0,int
 i64 0,int i64 0,int i64 0,int i64 0,int i64 0,int i64 0,int i64 0,int i64 0,int i64 0,int i64 0,int i64 0,int i64 0,int i64 0,int i64 0,int i64 0,int i64 0,int i64 0,int i64 0,int i64 0,int i64 0,int
 i64 0,int i64 0,int i64 0,int i64 0,int i64 0,int i64 0,int i64 0,int i64 0,int i64 0,int i64 0,int i64 0,int i64 0,int i64 0,int i64 0,int i64 0,int i64 0,int i64 0,int i64 0,int i64 0,int i64 0,int
 i64 0,int i64 0,int i64 0,int i64 0,int i64 0,int i64 0,int i64 0,int i64 0,int i64 0,int i64 0,int i64 0,int i64 0,int i64 0,int i64 0,int i64 0,int i64 0,int i64 0,int i64 0,int i64 0,int i64 0,int
 i64 0,int i64 0,int i64 0,int i64 0,int i64 0,int i64 0,int i64 0,int i64 0,int i64 0,int i64 0,int i64 0,int i64 0,int i64 0,int i64 0,int i64 0,int i64 0,int i64 0,int i64 0,int i64 0,int i64 0,int
 i64 0,int i64 0,int i64 0,int i64 0,int i64 0,int i64 0,int i64 0,int i64 0,int i64 0,int i64 0,int i64 0,int i64 0,int i64 0,int i64 0,int i64 0,int i64 0,int i64 0,int i64 0,int i64 0,int i64 0,int
 i64 0,int i64 0,int i64 0,int i64 0,int i64 0,int i64 0,int i64 0,int i64 0,int i64 0,int i64 0,int i64 0,int i64 0,int i64 0,int i64 0,int i64 0,int i64 0,int i64 0,int i64 0,int i64 0,int i64 0,int
 i64 0,int i64 0,int i64 0,int i64 0,int i64 0,int i64 0,int i64 0,int i64 0,int i64 0,int i64 0,int i64 0,int i64 0,int i64 0,int i64 0,int i64 0,int i64 0,int i64 0,int i64 0,int i64 0,int i64 0,int
 i64 0,int i64 0,int i64 0,slice none 0 0]
def Zhk(p0:List Value)(m:Mem)(R:RT):Prop:=
 chk (Nat.beq (List.length p0) 260) (∀(b:Nat)(m':Mem),Mem.le m m'->Mem.reads m' b 0 p0->∃(R_1:RT),True/\CX Try.prog 83 (Array.mk [agg (Array.mk p0),agg (Array.mk Zhj)]) m' [] R_1/\Zau
 Shape.bool R_1/\∀(b:Bool)(m'_1:Mem),Mem.le m' m'_1->R_1 (bool b) m'_1 []->∃(m'':Mem),Mem.le m m''/\Mem.le m'' m'_1/\R (bool b) m'' [])
theorem Zml(p0:List Value)(m:Mem)(R:RT)(h:Zhk p0 m R):CX Try.prog 125 #[.agg p0.toArray] m [] R:=
 Zaf (E:=Zow) ZaH mix Try.func125 [.v (.agg p0.toArray)] [] (by kernel_rfl) (Eq.mp (by kernel_rfl) h)
noncomputable def ZqK:Env:={ EB with
 loops:=(λi=>bif Nat.beq i 3 then⟨[(3,.slice),(4,.int .i64)],[2],[(30,260)],false⟩ else⟨[],[],[],false⟩)
 tokOf:=(λi=>bif Nat.beq i 30 then 30 else bif Nat.beq i 43 then 30 else 0)
 capF:=true }
abbrev ZiT:List Value:=[int i64 0,int i64 0,int i64 0,int i64 0,int i64 0,int i64 0,int i64 0,int i64 0,int i64 0,int i64 0,int i64 0,int i64 0,int i64 0,int i64 0,int i64 0,int i64 0,int
 i64 0,int i64 0,int i64 0,int i64 0,int i64 0,int i64 0,int i64 0,int i64 0,int i64 0,int i64 0,int i64 0,int i64 0,int i64 0,int i64 0,int i64 0,int i64 0,int i64 0,int i64 0,int i64 0,int i64 0,int
 i64 0,int i64 0,int i64 0,int i64 0,int i64 0,int i64 0,int i64 0,int i64 0,int i64 0,int i64 0,int i64 0,int i64 0,int i64 0,int i64 0,int i64 0,int i64 0,int i64 0,int i64 0,int i64 0,int i64 0,int
 i64 0,int i64 0,int i64 0,int i64 0,int i64 0,int i64 0,int i64 0,int i64 0,int i64 0,int i64 0,int i64 0,int i64 0,int i64 0,int i64 0,int i64 0,int i64 0,int i64 0,int i64 0,int i64 0,int i64 0,int
 i64 0,int i64 0,int i64 0,int i64 0,int i64 0,int i64 0,int i64 0,int i64 0,int i64 0,int i64 0,int i64 0,int i64 0,int i64 0,int i64 0,int i64 0,int i64 0,int i64 0,int i64 0,int i64 0,int i64 0,int
 i64 0,int i64 0,int i64 0,int i64 0,int i64 0,int i64 0,int i64 0,int i64 0,int i64 0,int i64 0,int i64 0,int i64 0,int i64 0,int i64 0,int i64 0,int i64 0,int i64 0,int i64 0,int i64 0,int i64 0,int
 i64 0,int i64 0,int i64 0,int i64 0,int i64 0,int i64 0,int i64 0,int i64 0,int i64 0,int i64 0,int i64 0,int i64 0,int i64 0,int i64 0,int i64 0,int i64 0,int i64 0,int i64 0,int i64 0,int i64 0,int
 i64 0,int i64 0,int i64 0,int i64 0,int i64 0,int i64 0,int i64 0,int i64 0,int i64 0,int i64 0,int i64 0,int i64 0,int i64 0,int i64 0,int i64 0,int i64 0,int i64 0,int i64 0,int i64 0,int i64 0,int
 i64 0,int i64 0,int i64 0,int i64 0,int i64 0,int i64 0,int i64 0,int i64 0,int i64 0,int i64 0,int i64 0,int i64 0,int i64 0,int i64 0,int i64 0,int i64 0,int i64 0,int i64 0,int i64 0,int i64 0,int
 i64 0,int i64 0,int i64 0,int i64 0,int i64 0,int i64 0,int i64 0,int i64 0,int i64 0,int i64 0,int i64 0,int i64 0,int i64 0,int i64 0,int i64 0,int i64 0,int i64 0,int i64 0,int i64 0,int i64 0,int
 i64 0,int i64 0,int i64 0,int i64 0,int i64 0,int i64 0,int i64 0,int i64 0,int i64 0,int i64 0,int i64 0,int i64 0,int i64 0,int i64 0,int i64 0,int i64 0,int i64 0,int i64 0,int i64 0,int i64 0,int
 i64 0,int i64 0,int i64 0,int i64 0,int i64 0,int i64 0,int i64 0,int i64 0,int i64 0,int i64 0,int i64 0,int i64 0,int i64 0,int i64 0,int i64 0,int i64 0,int i64 0,int i64 0,int i64 0,int i64 0,int
 i64 0,int i64 0,int i64 0,int i64 0,int i64 0,int i64 0,int i64 0,int i64 0,int i64 0,int i64 0,int i64 0,int i64 0,int i64 0,int i64 0,int i64 0,int i64 0,int i64 0,int i64 0,int i64 0,int i64 0,int
 i64 0,int i64 0,int i64 0,slice none 0 0]
abbrev Zfv:Nat->List (Option Box):=λ(b:Nat)=>[some (Box.mk b [] 70 260 false true)]
abbrev ZiU:List Value:=[int i64 1,int i64 0,int i64 0,int i64 0,int i64 0,int i64 0,int i64 0,int i64 0,int i64 0,int i64 0,int i64 0,int i64 0,int i64 0,int i64 0,int i64 0,int i64 0,int
 i64 0,int i64 0,int i64 0,int i64 0,int i64 0,int i64 0,int i64 0,int i64 0,int i64 0,int i64 0,int i64 0,int i64 0,int i64 0,int i64 0,int i64 0,int i64 0,int i64 0,int i64 0,int i64 0,int i64 0,int
 i64 0,int i64 0,int i64 0,int i64 0,int i64 0,int i64 0,int i64 0,int i64 0,int i64 0,int i64 0,int i64 0,int i64 0,int i64 0,int i64 0,int i64 0,int i64 0,int i64 0,int i64 0,int i64 0,int i64 0,int
 i64 0,int i64 0,int i64 0,int i64 0,int i64 0,int i64 0,int i64 0,int i64 0,int i64 0,int i64 0,int i64 0,int i64 0,int i64 0,int i64 0,int i64 0,int i64 0,int i64 0,int i64 0,int i64 0,int i64 0,int
 i64 0,int i64 0,int i64 0,int i64 0,int i64 0,int i64 0,int i64 0,int i64 0,int i64 0,int i64 0,int i64 0,int i64 0,int i64 0,int i64 0,int i64 0,int i64 0,int i64 0,int i64 0,int i64 0,int i64 0,int
 i64 0,int i64 0,int i64 0,int i64 0,int i64 0,int i64 0,int i64 0,int i64 0,int i64 0,int i64 0,int i64 0,int i64 0,int i64 0,int i64 0,int i64 0,int i64 0,int i64 0,int i64 0,int i64 0,int i64 0,int
 i64 0,int i64 0,int i64 0,int i64 0,int i64 0,int i64 0,int i64 0,int i64 0,int i64 0,int i64 0,int i64 0,int i64 0,int i64 0,int i64 0,int i64 0,int i64 0,int i64 0,int i64 0,int i64 0,int i64 0,int
 i64 0,int i64 0,int i64 0,int i64 0,int i64 0,int i64 0,int i64 0,int i64 0,int i64 0,int i64 0,int i64 0,int i64 0,int i64 0,int i64 0,int i64 0,int i64 0,int i64 0,int i64 0,int i64 0,int i64 0,int
 i64 0,int i64 0,int i64 0,int i64 0,int i64 0,int i64 0,int i64 0,int i64 0,int i64 0,int i64 0,int i64 0,int i64 0,int i64 0,int i64 0,int i64 0,int i64 0,int i64 0,int i64 0,int i64 0,int i64 0,int
 i64 0,int i64 0,int i64 0,int i64 0,int i64 0,int i64 0,int i64 0,int i64 0,int i64 0,int i64 0,int i64 0,int i64 0,int i64 0,int i64 0,int i64 0,int i64 0,int i64 0,int i64 0,int i64 0,int i64 0,int
 i64 0,int i64 0,int i64 0,int i64 0,int i64 0,int i64 0,int i64 0,int i64 0,int i64 0,int i64 0,int i64 0,int i64 0,int i64 0,int i64 0,int i64 0,int i64 0,int i64 0,int i64 0,int i64 0,int i64 0,int
 i64 0,int i64 0,int i64 0,int i64 0,int i64 0,int i64 0,int i64 0,int i64 0,int i64 0,int i64 0,int i64 0,int i64 0,int i64 0,int i64 0,int i64 0,int i64 0,int i64 0,int i64 0,int i64 0,int i64 0,int
 i64 0,int i64 0,int i64 0,int i64 0,int i64 0,int i64 0,int i64 0,int i64 0,int i64 0,int i64 0,int i64 0,int i64 0,int i64 0,int i64 0,int i64 0,int i64 0,int i64 0,int i64 0,int i64 0,int i64 0,int
 i64 0,int i64 0,int i64 0,slice none 0 0]
abbrev ZiV(a:Option Addr)(n c:Nat):List Value:=[int i64 3,int i64 0,int i64 0,int i64 0,int i64 0,int i64 0,int i64 0,int i64 0,int i64 0,int i64 0,int i64 0,int i64 0,int i64 0,int i64
 0,int i64 0,int i64 0,int i64 0,int i64 0,int i64 0,int i64 0,int i64 0,int i64 0,int i64 0,int i64 0,int i64 0,int i64 0,int i64 0,int i64 0,int i64 0,int i64 0,int i64 0,int i64 0,int i64 0,int i64
 0,int i64 0,int i64 0,int i64 0,int i64 0,int i64 0,int i64 0,int i64 0,int i64 0,int i64 0,int i64 0,int i64 0,int i64 0,int i64 0,int i64 0,int i64 0,int i64 0,int i64 0,int i64 0,int i64 0,int i64
 0,int i64 0,int i64 0,int i64 0,int i64 0,int i64 0,int i64 0,int i64 0,int i64 0,int i64 0,int i64 0,int i64 0,int i64 0,int i64 0,int i64 0,int i64 0,int i64 0,int i64 0,int i64 0,int i64 0,int i64
 0,int i64 0,int i64 0,int i64 0,int i64 0,int i64 0,int i64 0,int i64 0,int i64 0,int i64 0,int i64 0,int i64 0,int i64 0,int i64 0,int i64 0,int i64 0,int i64 0,int i64 0,int i64 0,int i64 0,int i64
 0,int i64 0,int i64 0,int i64 0,int i64 0,int i64 0,int i64 0,int i64 0,int i64 0,int i64 0,int i64 0,int i64 0,int i64 0,int i64 0,int i64 0,int i64 0,int i64 0,int i64 0,int i64 0,int i64 0,int i64
 0,int i64 0,int i64 0,int i64 0,int i64 0,int i64 0,int i64 0,int i64 0,int i64 0,int i64 0,int i64 0,int i64 0,int i64 0,int i64 0,int i64 0,int i64 0,int i64 0,int i64 0,int i64 0,int i64 0,int i64
 0,int i64 0,int i64 0,int i64 0,int i64 0,int i64 0,int i64 0,int i64 0,int i64 0,int i64 0,int i64 0,int i64 0,int i64 0,int i64 0,int i64 0,int i64 0,int i64 0,int i64 0,int i64 0,int i64 0,int i64
 0,int i64 0,int i64 0,int i64 0,int i64 0,int i64 0,int i64 0,int i64 0,int i64 0,int i64 0,int i64 0,int i64 0,int i64 0,int i64 0,int i64 0,int i64 0,int i64 0,int i64 0,int i64 0,int i64 0,int i64
 0,int i64 0,int i64 0,int i64 0,int i64 0,int i64 0,int i64 0,int i64 0,int i64 0,int i64 0,int i64 0,int i64 0,int i64 0,int i64 0,int i64 0,int i64 0,int i64 0,int i64 0,int i64 0,int i64 0,int i64
 0,int i64 0,int i64 0,int i64 0,int i64 0,int i64 0,int i64 0,int i64 0,int i64 0,int i64 0,int i64 0,int i64 0,int i64 0,int i64 0,int i64 0,int i64 0,int i64 0,int i64 0,int i64 0,int i64 0,int i64
 0,int i64 0,int i64 0,int i64 0,int i64 0,int i64 0,int i64 0,int i64 0,int i64 0,int i64 0,int i64 0,int i64 0,int i64 0,int i64 0,int i64 0,int i64 0,int i64 0,int i64 0,int i64 0,int i64 0,int i64
 0,int i64 0,int i64 0,int i64 0,int i64 0,int i64 0,int i64 0,int i64 0,int i64 0,int i64 0,int i64 0,int i64 0,int i64 0,int i64 0,int i64 0,int i64 0,int i64 0,int i64 0,int i64 0,int i64 0,int i64
 0,int i64 0,int i64 0,int i64 0,int i64 0,int i64 0,slice a n c]
def ZiW(p0a:Option Addr)(p0n p0c:Nat)(m:Mem)(R:RT):Prop:=
 ∀(b:Nat),∃(I:IT),(∃(n:Nat),I [slice none 0 0,int i64 0] [ZiT] [slice none 0 0] m n)/\∀(a:Option Addr)(n c:Nat)(ab:Int)(cs:List Value)(ae:Option Addr)(af ag:Nat)(m':Mem) (ah:
 Nat),Mem.le m m'->I [slice a n c,int i64 ab] [cs] [slice ae af ag] m' ah->br (decide (ab < (↑p0n:Int))) (∃(ai:Nat),∃(o:Nat),p0a=some (Addr.mk ai o none)/\Zad ab p0n/\∃(vs:List Value),
 List.length vs=260/\Mem.reads m' ai (o+Int.toNat ab*260) vs/\∃(R_1:RT),True/\CX Try.prog 79 (Array.mk [agg (Array.mk vs)]) m' [] R_1/\Zau Shape.bool R_1/\∀(aj:Bool)(aa:Mem),Mem.le m' aa->R_1
 (bool aj) aa []->br (!aj) (∃(m'':Mem),Mem.le m m''/\Mem.le m'' aa/\R (agg (Array.mk ZiT)) m'' []) (∃(ak:Nat),∃(o:Nat),p0a=some (Addr.mk ak o none)/\Zad ab p0n/\∃(v:Value),aa ak (o +
 Int.toNat ab*260+0)=some v/\chk (ZaG i64 v&&decide (i64=i64)) (br (RowKit.intOf v == (3:Int)) (∃(ac:Nat),∃(o:Nat),p0a=some (Addr.mk ac o none)/\Zad ab p0n/\∃(v:Value),aa ac (o +
 Int.toNat ab*260+259)=some v/\chk (Zcn v&&true) ((Tok.mk (slice ae af ag) 260=Tok.mk (slice a n c) 260\/slice a n c=slice none 0 0\/c < n+slN v)/\∃(xs:List Value),∃(ys:List Value),List.length
 xs=n*260/\List.length ys=slN v*260/\rowRd aa a xs/\rowRd aa (slA v) ys/\(∀(u:Value),u∈ys->Value.oneCell' u=true)/\(n+slN v)*2096<=140737488355328/\n+slN v<=9223372036854775807/\∀(a':
 Option Addr) (c':Nat) (m':Mem),Mem.le aa m'->rowRd m' a' (List.append xs ys)->n+slN v<=c'->Zaz (Zfv b)/\∃(n':Nat),n' < ah/\I [slice a' (n+slN v) c',int i64 (IntKind.wrap i64 (ab+(1:
 Int)))] [cs] [slice a' (n+slN v) c'] m' n')) (∃(ac:Nat),∃(o:Nat),p0a=some (Addr.mk ac o none)/\Zad ab p0n/\∃(v:Value),aa ac (o+Int.toNat ab*260+0)=some v/\chk (ZaG i64 v&&decide (i64 =
 i64)) (br (!RowKit.intOf v == (1:Int)) (∃(al:Nat),∃(o:Nat),p0a=some (Addr.mk al o none)/\Zad ab p0n/\∃(vs:List Value),List.length vs=260/\Mem.reads aa al (o+Int.toNat ab*260) vs/\chk
 (Nat.beq (List.length vs) 260&&true) (∀(ad:Nat),Mem.free aa ad->(Tok.mk (slice ae af ag) 260=Tok.mk (slice a n c) 260\/slice a n c=slice none 0 0\/c < n+1)/\∃(xs:List Value),∃(ys:List Value),
 List.length xs=n*260/\List.length ys=1*260/\rowRd (Mem.add aa ad (List.append vs [])) a xs/\rowRd (Mem.add aa ad (List.append vs [])) (some (Addr.mk ad 0 none)) ys/\(∀(u:Value),u∈ys->Value.oneCell' u
 = true)/\(n+1)*2096<=140737488355328/\n+1<=9223372036854775807/\∀(a':Option Addr)(c':Nat)(m':Mem),Mem.le (Mem.add aa ad (List.append vs [])) m'->rowRd m' a' (List.append xs ys)->n+1<=c'->
 Zaz (Zfv b)/\∃(n':Nat),n' < ah/\I [slice a' (n+1) c',int i64 (IntKind.wrap i64 (ab+(1:Int)))] [cs] [slice a' (n+1) c'] m' n')) (Zaz (Zfv b)/\∃(n':Nat),n' < ah/\I [slice a n
 c,int i64 (IntKind.wrap i64 (ab+(1:Int)))] [cs] [slice ae af ag] aa n')))))) (br ((↑n:Int) == (0:Int)) (∃(m'':Mem),Mem.le m m''/\Mem.le m'' m'/\R (agg (Array.mk ZiU)) m'' []) (br ((↑n:Int) ==
 (1:Int)) (∃(b:Nat),∃(o:Nat),a=some (Addr.mk b o none)/\Zad (0:Int) n/\∃(vs:List Value),List.length vs=260/\Mem.reads m' b (o+0) vs/\chk (Nat.beq (List.length vs) 260&&ZbA vs) (∃(m'':
 Mem),Mem.le m m''/\Mem.le m'' m'/\R (agg (Array.mk vs)) m'' [])) (∃(R_1:RT),True/\CX Try.prog 124 (Array.mk [agg (Array.mk (ZiV a n c))]) m' [] R_1/\Zau Shape.cells R_1/\∀(cs:List Value) (aa:
 Mem),Mem.le m' aa->R_1 (agg (Array.mk cs)) aa []->chk (Nat.beq (List.length cs) 260&&ZbA cs) (∃(m'':Mem),Mem.le m m''/\Mem.le m'' aa/\R (agg (Array.mk cs)) m'' []))))
theorem Zox(p0a:Option Addr)(p0n p0c:Nat)(m:Mem)(R:RT)(h:ZiW p0a p0n p0c m R):CX Try.prog 118 #[.slice p0a p0n p0c] m [] R:=
 Zaf (E:=ZqK) ZaH mix Try.func118 [.v (.slice p0a p0n p0c)] [] (by kernel_rfl) (Eq.mp (by kernel_rfl) h)
noncomputable def Zsl:Env:={ EB with
 loops:=(λi=>bif Nat.beq i 3 then⟨[(3,.slice),(4,.int .i64)],[2],[(35,260)],false⟩ else⟨[],[],[],false⟩)
 tokOf:=(λi=>bif Nat.beq i 35 then 35 else bif Nat.beq i 42 then 35 else 0)
 capF:=true }
abbrev Zhl:List Value:=[int i64 0,int i64 0,int i64 0,int i64 0,int i64 0,int i64 0,int i64 0,int i64 0,int i64 0,int i64 0,int i64 0,int i64 0,int i64 0,int i64 0,int i64 0,int i64 0,int i64
 0,int i64 0,int i64 0,int i64 0,int i64 0,int i64 0,int i64 0,int i64 0,int i64 0,int i64 0,int i64 0,int i64 0,int i64 0,int i64 0,int i64 0,int i64 0,int i64 0,int i64 0,int i64 0,int i64 0,int i64
 0,int i64 0,int i64 0,int i64 0,int i64 0,int i64 0,int i64 0,int i64 0,int i64 0,int i64 0,int i64 0,int i64 0,int i64 0,int i64 0,int i64 0,int i64 0,int i64 0,int i64 0,int i64 0,int i64 0,int i64
 0,int i64 0,int i64 0,int i64 0,int i64 0,int i64 0,int i64 0,int i64 0,int i64 0,int i64 0,int i64 0,int i64 0,int i64 0,int i64 0,int i64 0,int i64 0,int i64 0,int i64 0,int i64 0,int i64 0,int i64
 0,int i64 0,int i64 0,int i64 0,int i64 0,int i64 0,int i64 0,int i64 0,int i64 0,int i64 0,int i64 0,int i64 0,int i64 0,int i64 0,int i64 0,int i64 0,int i64 0,int i64 0,int i64 0,int i64 0,int i64
 0,int i64 0,int i64 0,int i64 0,int i64 0,int i64 0,int i64 0,int i64 0,int i64 0,int i64 0,int i64 0,int i64 0,int i64 0,int i64 0,int i64 0,int i64 0,int i64 0,int i64 0,int i64 0,int i64 0,int i64
 0,int i64 0,int i64 0,int i64 0,int i64 0,int i64 0,int i64 0,int i64 0,int i64 0,int i64 0,int i64 0,int i64 0,int i64 0,int i64 0,int i64 0,int i64 0,int i64 0,int i64 0,int i64 0,int i64 0,int i64
 0,int i64 0,int i64 0,int i64 0,int i64 0,int i64 0,int i64 0,int i64 0,int i64 0,int i64 0,int i64 0,int i64 0,int i64 0,int i64 0,int i64 0,int i64 0,int i64 0,int i64 0,int i64 0,int i64 0,int i64
 0,int i64 0,int i64 0,int i64 0,int i64 0,int i64 0,int i64 0,int i64 0,int i64 0,int i64 0,int i64 0,int i64 0,int i64 0,int i64 0,int i64 0,int i64 0,int i64 0,int i64 0,int i64 0,int i64 0,int i64
 0,int i64 0,int i64 0,int i64 0,int i64 0,int i64 0,int i64 0,int i64 0,int i64 0,int i64 0,int i64 0,int i64 0,int i64 0,int i64 0,int i64 0,int i64 0,int i64 0,int i64 0,int i64 0,int i64 0,int i64
 0,int i64 0,int i64 0,int i64 0,int i64 0,int i64 0,int i64 0,int i64 0,int i64 0,int i64 0,int i64 0,int i64 0,int i64 0,int i64 0,int i64 0,int i64 0,int i64 0,int i64 0,int i64 0,int i64 0,int i64
 0,int i64 0,int i64 0,int i64 0,int i64 0,int i64 0,int i64 0,int i64 0,int i64 0,int i64 0,int i64 0,int i64 0,int i64 0,int i64 0,int i64 0,int i64 0,int i64 0,int i64 0,int i64 0,int i64 0,int i64
 0,int i64 0,int i64 0,int i64 0,int i64 0,int i64 0,int i64 0,int i64 0,int i64 0,int i64 0,int i64 0,int i64 0,int i64 0,int i64 0,int i64 0,int i64 0,int i64 0,int i64 0,int i64 0,int i64 0,int i64
 0,int i64 0,int i64 0,slice none 0 0]
abbrev Zhm:Nat->List (Option Box):=λ(b:Nat)=>[some (Box.mk b [] 70 260 false true)]
abbrev Zk4(a:Option Addr)(n c:Nat):List Value:=[int i64 4,int i64 0,int i64 0,int i64 0,int i64 0,int i64 0,int i64 0,int i64 0,int i64 0,int i64 0,int i64 0,int i64 0,int i64 0,int i64 0,
 int i64 0,int i64 0,int i64 0,int i64 0,int i64 0,int i64 0,int i64 0,int i64 0,int i64 0,int i64 0,int i64 0,int i64 0,int i64 0,int i64 0,int i64 0,int i64 0,int i64 0,int i64 0,int i64 0,int i64 0,
 int i64 0,int i64 0,int i64 0,int i64 0,int i64 0,int i64 0,int i64 0,int i64 0,int i64 0,int i64 0,int i64 0,int i64 0,int i64 0,int i64 0,int i64 0,int i64 0,int i64 0,int i64 0,int i64 0,int i64 0,
 int i64 0,int i64 0,int i64 0,int i64 0,int i64 0,int i64 0,int i64 0,int i64 0,int i64 0,int i64 0,int i64 0,int i64 0,int i64 0,int i64 0,int i64 0,int i64 0,int i64 0,int i64 0,int i64 0,int i64 0,
 int i64 0,int i64 0,int i64 0,int i64 0,int i64 0,int i64 0,int i64 0,int i64 0,int i64 0,int i64 0,int i64 0,int i64 0,int i64 0,int i64 0,int i64 0,int i64 0,int i64 0,int i64 0,int i64 0,int i64 0,
 int i64 0,int i64 0,int i64 0,int i64 0,int i64 0,int i64 0,int i64 0,int i64 0,int i64 0,int i64 0,int i64 0,int i64 0,int i64 0,int i64 0,int i64 0,int i64 0,int i64 0,int i64 0,int i64 0,int i64 0,
 int i64 0,int i64 0,int i64 0,int i64 0,int i64 0,int i64 0,int i64 0,int i64 0,int i64 0,int i64 0,int i64 0,int i64 0,int i64 0,int i64 0,int i64 0,int i64 0,int i64 0,int i64 0,int i64 0,int i64 0,
 int i64 0,int i64 0,int i64 0,int i64 0,int i64 0,int i64 0,int i64 0,int i64 0,int i64 0,int i64 0,int i64 0,int i64 0,int i64 0,int i64 0,int i64 0,int i64 0,int i64 0,int i64 0,int i64 0,int i64 0,
 int i64 0,int i64 0,int i64 0,int i64 0,int i64 0,int i64 0,int i64 0,int i64 0,int i64 0,int i64 0,int i64 0,int i64 0,int i64 0,int i64 0,int i64 0,int i64 0,int i64 0,int i64 0,int i64 0,int i64 0,
 int i64 0,int i64 0,int i64 0,int i64 0,int i64 0,int i64 0,int i64 0,int i64 0,int i64 0,int i64 0,int i64 0,int i64 0,int i64 0,int i64 0,int i64 0,int i64 0,int i64 0,int i64 0,int i64 0,int i64 0,
 int i64 0,int i64 0,int i64 0,int i64 0,int i64 0,int i64 0,int i64 0,int i64 0,int i64 0,int i64 0,int i64 0,int i64 0,int i64 0,int i64 0,int i64 0,int i64 0,int i64 0,int i64 0,int i64 0,int i64 0,
 int i64 0,int i64 0,int i64 0,int i64 0,int i64 0,int i64 0,int i64 0,int i64 0,int i64 0,int i64 0,int i64 0,int i64 0,int i64 0,int i64 0,int i64 0,int i64 0,int i64 0,int i64 0,int i64 0,int i64 0,
 int i64 0,int i64 0,int i64 0,int i64 0,int i64 0,int i64 0,int i64 0,int i64 0,int i64 0,int i64 0,int i64 0,int i64 0,int i64 0,int i64 0,int i64 0,int i64 0,int i64 0,int i64 0,int i64 0,int i64 0,
 int i64 0,int i64 0,int i64 0,int i64 0,int i64 0,slice a n c]
def Zk5(p0a:Option Addr)(p0n p0c:Nat)(m:Mem)(R:RT):Prop:=
 ∀(b:Nat),∃(I:IT),(∃(n:Nat),I [slice none 0 0,int i64 0] [Zhl] [slice none 0 0] m n)/\∀(a:Option Addr)(n c:Nat)(aa:Int)(cs:List Value)(af:Option Addr)(ag ah:Nat)(m':Mem) (ai:
 Nat),Mem.le m m'->I [slice a n c,int i64 aa] [cs] [slice af ag ah] m' ai->br (decide (aa < (↑p0n:Int))) (∃(aj:Nat),∃(o:Nat),p0a=some (Addr.mk aj o none)/\Zad aa p0n/\∃(vs:List Value),
 List.length vs=260/\Mem.reads m' aj (o+Int.toNat aa*260) vs/\∃(R_1:RT),True/\CX Try.prog 125 (Array.mk [agg (Array.mk vs)]) m' [] R_1/\Zau Shape.bool R_1/\∀(ak:Bool)(ab:Mem),Mem.le m' ab->R_1
 (bool ak) ab []->br ak (Zaz (Zhm b)/\∃(n':Nat),n' < ai/\I [slice a n c,int i64 (IntKind.wrap i64 (aa+(1:Int)))] [cs] [slice af ag ah] ab n') (∃(al:Nat),∃(o:Nat),p0a=some (Addr.mk al o
 none)/\Zad aa p0n/\∃(vs:List Value),List.length vs=260/\Mem.reads ab al (o+Int.toNat aa*260) vs/\∃(R_2:RT),True/\CX Try.prog 79 (Array.mk [agg (Array.mk vs)]) ab [] R_2/\Zau Shape.bool R_2/\∀
 (am:Bool) (m':Mem),Mem.le ab m'->R_2 (bool am) m' []->br (!am) (∃(m'':Mem),Mem.le m m''/\Mem.le m'' m'/\R (agg (Array.mk Zhl)) m'' []) (∃(an:Nat),∃(o:Nat),p0a=some (Addr.mk an o none)/\
 Zad aa p0n/\∃(v:Value),m' an (o+Int.toNat aa*260+0)=some v/\chk (ZaG i64 v&&decide (i64=i64)) (br (RowKit.intOf v == (4:Int)) (∃(ad:Nat),∃(o:Nat),p0a=some (Addr.mk ad o none)/\
 Zad aa p0n/\∃(v:Value),m' ad (o+Int.toNat aa*260+259)=some v/\chk (Zcn v&&true) ((Tok.mk (slice af ag ah) 260=Tok.mk (slice a n c) 260\/slice a n c=slice none 0 0\/c < n+slN v)/\∃(xs:
 List Value),∃(ys:List Value),List.length xs=n*260/\List.length ys=slN v*260/\rowRd m' a xs/\rowRd m' (slA v) ys/\(∀(u:Value),u∈ys->Value.oneCell' u=true)/\(n+slN v)*2096<=140737488355328
 /\ n+slN v<=9223372036854775807/\∀(a':Option Addr)(c':Nat)(ac:Mem),Mem.le m' ac->rowRd ac a' (List.append xs ys)->n+slN v<=c'->Zaz (Zhm b)/\∃(n':Nat),n' < ai/\I [slice a' (n+slN v)
 c',int i64 (IntKind.wrap i64 (aa+(1:Int)))] [cs] [slice a' (n+slN v) c'] ac n')) (∃(ad:Nat),∃(o:Nat),p0a=some (Addr.mk ad o none)/\Zad aa p0n/\∃(vs:List Value),List.length vs=260/\Mem.reads
 m' ad (o+Int.toNat aa*260) vs/\chk (Nat.beq (List.length vs) 260&&true) (∀(ae:Nat),Mem.free m' ae->(Tok.mk (slice af ag ah) 260=Tok.mk (slice a n c) 260\/slice a n c=slice none 0 0\/c < n+1)/\∃(xs
 : List Value),∃(ys:List Value),List.length xs=n*260/\List.length ys=1*260/\rowRd (Mem.add m' ae (List.append vs [])) a xs/\rowRd (Mem.add m' ae (List.append vs [])) (some (Addr.mk ae 0 none)) ys/\(∀(u
 : Value),u∈ys->Value.oneCell' u=true)/\(n+1)*2096<=140737488355328/\n+1<=9223372036854775807/\∀(a':Option Addr)(c':Nat)(ac:Mem),Mem.le (Mem.add m' ae (List.append vs [])) ac->rowRd ac a'
 (List.append xs ys)->n+1<=c'->Zaz (Zhm b)/\∃(n':Nat),n' < ai/\I [slice a' (n+1) c',int i64 (IntKind.wrap i64 (aa+(1:Int)))] [cs] [slice a' (n+1) c'] ac n')))))) (br ((↑n:Int) == (0:
 Int)) (∃(m'':Mem),Mem.le m m''/\Mem.le m'' m'/\R (agg (Array.mk Zhl)) m'' []) (br ((↑n:Int) == (1:Int)) (∃(b:Nat),∃(o:Nat),a=some (Addr.mk b o none)/\Zad (0:Int) n/\∃(vs:List
 Value),List.length vs=260/\Mem.reads m' b (o+0) vs/\chk (Nat.beq (List.length vs) 260&&ZbA vs) (∃(m'':Mem),Mem.le m m''/\Mem.le m'' m'/\R (agg (Array.mk vs)) m'' [])) (∃(R_1:RT),True/\CX Try.prog
 124 (Array.mk [agg (Array.mk (Zk4 a n c))]) m' [] R_1/\Zau Shape.cells R_1/\∀(cs:List Value)(ab:Mem),Mem.le m' ab->R_1 (agg (Array.mk cs)) ab []->chk (Nat.beq (List.length cs) 260&&ZbA cs) (∃
 (m'':Mem),Mem.le m m''/\Mem.le m'' ab/\R (agg (Array.mk cs)) m'' []))))
theorem ZqL(p0a:Option Addr)(p0n p0c:Nat)(m:Mem)(R:RT)(h:Zk5 p0a p0n p0c m R):CX Try.prog 119 #[.slice p0a p0n p0c] m [] R:=
 Zaf (E:=Zsl) ZaH mix Try.func119 [.v (.slice p0a p0n p0c)] [] (by kernel_rfl) (Eq.mp (by kernel_rfl) h)
noncomputable def Zmm:Env:={ EB with
 joins:=(λi=>bif Nat.beq i 2 then some [(16,.bool)]else bif Nat.beq i 4 then some [(23,.bool)]else bif Nat.beq i 6 then some [(37,.bool)]else bif Nat.beq i 12 then some [(54,.bool)]else none)
 frzNew:=[3] }
abbrev Zc0:List Value:=[int i64 0,int i64 0,int i64 0,int i64 0,int i64 0,int i64 0,int i64 0,int i64 0,int i64 0,int i64 0,int i64 0,int i64 0,int i64 0,int i64 0,int i64 0,int i64 0,int
 i64 0,int i64 0,int i64 0,int i64 0,int i64 0,int i64 0,int i64 0,int i64 0,int i64 0,int i64 0,int i64 0,int i64 0,int i64 0,int i64 0,int i64 0,int i64 0,int i64 0,int i64 0,int i64 0,int i64 0,int
 i64 0,int i64 0,int i64 0,int i64 0,int i64 0,int i64 0,int i64 0,int i64 0,int i64 0,int i64 0,int i64 0,int i64 0,int i64 0,int i64 0,int i64 0,int i64 0,int i64 0,int i64 0,int i64 0,int i64 0,int
 i64 0,int i64 0,int i64 0,int i64 0,int i64 0,int i64 0,int i64 0,int i64 0,int i64 0,int i64 0,int i64 0,int i64 0,int i64 0,int i64 0,int i64 0,int i64 0,int i64 0,int i64 0,int i64 0,int i64 0,int
 i64 0,int i64 0,int i64 0,int i64 0,int i64 0,int i64 0,int i64 0,int i64 0,int i64 0,int i64 0,int i64 0,int i64 0,int i64 0,int i64 0,int i64 0,int i64 0,int i64 0,int i64 0,int i64 0,int i64 0,int
 i64 0,int i64 0,int i64 0,int i64 0,int i64 0,int i64 0,int i64 0,int i64 0,int i64 0,int i64 0,int i64 0,int i64 0,int i64 0,int i64 0,int i64 0,int i64 0,int i64 0,int i64 0,int i64 0,int i64 0,int
 i64 0,int i64 0,int i64 0,int i64 0,int i64 0,int i64 0,int i64 0,int i64 0,int i64 0,int i64 0,int i64 0,int i64 0,int i64 0,int i64 0,int i64 0,int i64 0,int i64 0,int i64 0,int i64 0,int i64 0,int
 i64 0,int i64 0,int i64 0,int i64 0,int i64 0,int i64 0,int i64 0,int i64 0,int i64 0,int i64 0,int i64 0,int i64 0,int i64 0,int i64 0,int i64 0,int i64 0,int i64 0,int i64 0,int i64 0,int i64 0,int
 i64 0,int i64 0,int i64 0,int i64 0,int i64 0,int i64 0,int i64 0,int i64 0,int i64 0,int i64 0,int i64 0,int i64 0,int i64 0,int i64 0,int i64 0,int i64 0,int i64 0,int i64 0,int i64 0,int i64 0,int
 i64 0,int i64 0,int i64 0,int i64 0,int i64 0,int i64 0,int i64 0,int i64 0,int i64 0,int i64 0,int i64 0,int i64 0,int i64 0,int i64 0,int i64 0,int i64 0,int i64 0,int i64 0,int i64 0,int i64 0,int
 i64 0,int i64 0,int i64 0,int i64 0,int i64 0,int i64 0,int i64 0,int i64 0,int i64 0,int i64 0,int i64 0,int i64 0,int i64 0,int i64 0,int i64 0,int i64 0,int i64 0,int i64 0,int i64 0,int i64 0,int
 i64 0,int i64 0,int i64 0,int i64 0,int i64 0,int i64 0,int i64 0,int i64 0,int i64 0,int i64 0,int i64 0,int i64 0,int i64 0,int i64 0,int i64 0,int i64 0,int i64 0,int i64 0,int i64 0,int i64 0,int
 i64 0,int i64 0,int i64 0,int i64 0,int i64 0,int i64 0,int i64 0,int i64 0,int i64 0,int i64 0,int i64 0,int i64 0,int i64 0,int i64 0,int i64 0,int i64 0,int i64 0,int i64 0,int i64 0,int i64 0,int
 i64 0,int i64 0,int i64 0,slice none 0 0]
abbrev Zka:Nat->Option Box:=λ(b:Nat)=>some (Box.mk b Zc0 70 260 false true)
abbrev Zkb:List Value->Nat->Option Box:=λ(p0:List Value)(b:Nat)=>some (Box.mk b p0 70 260 true true)
abbrev Za7:List Value->Nat->Nat->List (Option Box):=λ(p0:List Value)(b b_1:Nat)=>[Zka b_1,Zkb p0 b]
abbrev ZfW:List Value:=[int i64 1,int i64 0,int i64 0,int i64 0,int i64 0,int i64 0,int i64 0,int i64 0,int i64 0,int i64 0,int i64 0,int i64 0,int i64 0,int i64 0,int i64 0,int i64 0,int
 i64 0,int i64 0,int i64 0,int i64 0,int i64 0,int i64 0,int i64 0,int i64 0,int i64 0,int i64 0,int i64 0,int i64 0,int i64 0,int i64 0,int i64 0,int i64 0,int i64 0,int i64 0,int i64 0,int i64 0,int
 i64 0,int i64 0,int i64 0,int i64 0,int i64 0,int i64 0,int i64 0,int i64 0,int i64 0,int i64 0,int i64 0,int i64 0,int i64 0,int i64 0,int i64 0,int i64 0,int i64 0,int i64 0,int i64 0,int i64 0,int
 i64 0,int i64 0,int i64 0,int i64 0,int i64 0,int i64 0,int i64 0,int i64 0,int i64 0,int i64 0,int i64 0,int i64 0,int i64 0,int i64 0,int i64 0,int i64 0,int i64 0,int i64 0,int i64 0,int i64 0,int
 i64 0,int i64 0,int i64 0,int i64 0,int i64 0,int i64 0,int i64 0,int i64 0,int i64 0,int i64 0,int i64 0,int i64 0,int i64 0,int i64 0,int i64 0,int i64 0,int i64 0,int i64 0,int i64 0,int i64 0,int
 i64 0,int i64 0,int i64 0,int i64 0,int i64 0,int i64 0,int i64 0,int i64 0,int i64 0,int i64 0,int i64 0,int i64 0,int i64 0,int i64 0,int i64 0,int i64 0,int i64 0,int i64 0,int i64 0,int i64 0,int
 i64 0,int i64 0,int i64 0,int i64 0,int i64 0,int i64 0,int i64 0,int i64 0,int i64 0,int i64 0,int i64 0,int i64 0,int i64 0,int i64 0,int i64 0,int i64 0,int i64 0,int i64 0,int i64 0,int i64 0,int
 i64 0,int i64 0,int i64 0,int i64 0,int i64 0,int i64 0,int i64 0,int i64 0,int i64 0,int i64 0,int i64 0,int i64 0,int i64 0,int i64 0,int i64 0,int i64 0,int i64 0,int i64 0,int i64 0,int i64 0,int
 i64 0,int i64 0,int i64 0,int i64 0,int i64 0,int i64 0,int i64 0,int i64 0,int i64 0,int i64 0,int i64 0,int i64 0,int i64 0,int i64 0,int i64 0,int i64 0,int i64 0,int i64 0,int i64 0,int i64 0,int
 i64 0,int i64 0,int i64 0,int i64 0,int i64 0,int i64 0,int i64 0,int i64 0,int i64 0,int i64 0,int i64 0,int i64 0,int i64 0,int i64 0,int i64 0,int i64 0,int i64 0,int i64 0,int i64 0,int i64 0,int
 i64 0,int i64 0,int i64 0,int i64 0,int i64 0,int i64 0,int i64 0,int i64 0,int i64 0,int i64 0,int i64 0,int i64 0,int i64 0,int i64 0,int i64 0,int i64 0,int i64 0,int i64 0,int i64 0,int i64 0,int
 i64 0,int i64 0,int i64 0,int i64 0,int i64 0,int i64 0,int i64 0,int i64 0,int i64 0,int i64 0,int i64 0,int i64 0,int i64 0,int i64 0,int i64 0,int i64 0,int i64 0,int i64 0,int i64 0,int i64 0,int
 i64 0,int i64 0,int i64 0,int i64 0,int i64 0,int i64 0,int i64 0,int i64 0,int i64 0,int i64 0,int i64 0,int i64 0,int i64 0,int i64 0,int i64 0,int i64 0,int i64 0,int i64 0,int i64 0,int i64 0,int
 i64 0,int i64 0,int i64 0,slice none 0 0]
abbrev ZfX(p1 p2:Int)(b:Nat):List Value:=[int i64 5,int i64 0,int i64 0,int i64 0,int i64 0,int i64 0,int i64 0,int i64 0,int i64 0,int i64 0,int i64 0,int i64 0,int i64 0,int i64 0,
 int i64 0,int i64 0,int i64 0,int i64 0,int i64 0,int i64 0,int i64 0,int i64 0,int i64 0,int i64 0,int i64 0,int i64 0,int i64 0,int i64 0,int i64 0,int i64 0,int i64 0,int i64 0,int i64 0,int i64 0,
 int i64 0,int i64 0,int i64 0,int i64 0,int i64 0,int i64 0,int i64 0,int i64 0,int i64 0,int i64 0,int i64 0,int i64 0,int i64 0,int i64 0,int i64 0,int i64 0,int i64 0,int i64 0,int i64 0,int i64 0,
 int i64 0,int i64 0,int i64 0,int i64 0,int i64 0,int i64 0,int i64 0,int i64 0,int i64 0,int i64 0,int i64 0,int i64 0,int i64 0,int i64 0,int i64 0,int i64 0,int i64 0,int i64 0,int i64 0,int i64 0,
 int i64 0,int i64 0,int i64 0,int i64 0,int i64 0,int i64 0,int i64 0,int i64 0,int i64 0,int i64 0,int i64 0,int i64 0,int i64 0,int i64 0,int i64 0,int i64 0,int i64 0,int i64 0,int i64 0,int i64 0,
 int i64 0,int i64 0,int i64 0,int i64 0,int i64 0,int i64 0,int i64 0,int i64 0,int i64 0,int i64 0,int i64 0,int i64 0,int i64 0,int i64 0,int i64 0,int i64 0,int i64 0,int i64 0,int i64 0,int i64 0,
 int i64 0,int i64 0,int i64 0,int i64 0,int i64 0,int i64 0,int i64 0,int i64 0,int i64 0,int i64 0,int i64 0,int i64 0,int i64 0,int i64 0,int i64 0,int i64 0,int i64 0,int i64 0,int i64 0,int i64 0,
 int i64 0,int i64 0,int i64 0,int i64 0,int i64 0,int i64 0,int i64 0,int i64 0,int i64 0,int i64 0,int i64 0,int i64 0,int i64 0,int i64 0,int i64 0,int i64 0,int i64 0,int i64 0,int i64 0,int i64 0,
 int i64 0,int i64 0,int i64 0,int i64 0,int i64 0,int i64 0,int i64 0,int i64 0,int i64 0,int i64 0,int i64 0,int i64 0,int i64 0,int i64 0,int i64 0,int i64 0,int i64 0,int i64 0,int i64 0,int i64 0,
 int i64 0,int i64 0,int i64 0,int i64 0,int i64 0,int i64 0,int i64 0,int i64 0,int i64 0,int i64 0,int i64 0,int i64 0,int i64 0,int i64 0,int i64 0,int i64 0,int i64 0,int i64 0,int i64 0,int i64 0,
 int i64 0,int i64 0,int i64 0,int i64 0,int i64 0,int i64 0,int i64 0,int i64 0,int i64 0,int i64 0,int i64 0,int i64 0,int i64 0,int i64 0,int i64 0,int i64 0,int i64 0,int i64 0,int i64 0,int i64 0,
 int i64 0,int i64 0,int i64 0,int i64 0,int i64 0,int i64 0,int i64 0,int i64 0,int i64 0,int i64 0,int i64 0,int i64 0,int i64 0,int i64 0,int i64 0,int i64 0,int i64 0,int i64 0,int i64 0,int i64 0,
 int i64 0,int i64 0,int i64 0,int i64 0,int i64 0,int i64 0,int i64 0,int i64 0,int i64 0,int i64 0,int i64 0,int i64 0,int i64 0,int i64 0,int i64 0,int i64 0,int i64 0,int i64 0,int i64 0,int i64 0,
 int i64 0,int i64 0,int i64 0,int i64 p1,int i64 p2,slice (some (Addr.mk b 0 none)) 1 1]
def ZfY(p0:List Value)(p1 p2:Int)(m:Mem)(R:RT):Prop:=
 chk (Nat.beq (List.length p0) 260) (∀(b:Nat)(m':Mem),Mem.le m m'->Mem.reads m' b 0 p0->∀(b_1:Nat),∃(R_1:RT),True/\CX Try.prog 125 (Array.mk [agg (Array.mk p0)]) m' [] R_1/\Zau Shape.bool R_1/\∀(b_2
 : Bool) (m'_1:Mem),Mem.le m' m'_1->R_1 (bool b_2) m'_1 []->∃(b_3:Bool),br (!b_2) (∃(R:RT),True/\CX Try.prog 79 (Array.mk [agg (Array.mk p0)]) m'_1 [] R/\Zau Shape.bool R/\∀(b_4:Bool)(m':Mem),
 Mem.le m'_1 m'->R (bool b_4) m' []->Zaz (Za7 p0 b b_1)/\[bool !b_4]=[bool b_3]) (Zaz (Za7 p0 b b_1)/\[bool false]=[bool b_3])/\br b_3 (∃(m'':Mem),Mem.le m m''/\Mem.le m'' m'_1/\
 R (agg (Array.mk Zc0)) m'' []) (∃(b_4:Bool),br (p1 == (0:Int)) (Zaz (Za7 p0 b b_1)/\[bool (p2 == (0:Int))]=[bool b_4]) (Zaz (Za7 p0 b b_1)/\[bool false]=[bool b_4])/\
 br b_4 (∃(m'':Mem),Mem.le m m''/\Mem.le m'' m'_1/\R (agg (Array.mk ZfW)) m'' []) (∃(b_5:Bool),br (p1 == (1:Int)) (br (!p2 == (1:Int)) (∃(R:RT),True/\CX Try.prog 117 (Array.mk [int i64 p1,
 int i64 p2]) m'_1 [] R/\Zau Shape.bool R/\∀(b_6:Bool)(m':Mem),Mem.le m'_1 m'->R (bool b_6) m' []->Zaz (Za7 p0 b b_1)/\[bool !b_6]=[bool b_5]) (Zaz (Za7 p0 b b_1)/\[bool false]
 = [bool b_5])) (∃(R:RT),True/\CX Try.prog 117 (Array.mk [int i64 p1,int i64 p2]) m'_1 [] R/\Zau Shape.bool R/\∀(b_6:Bool)(m':Mem),Mem.le m'_1 m'->R (bool b_6) m' []->Zaz (Za7 p0 b b_1)/\
 [bool !b_6]=[bool b_5])/\br b_5 (∃(m'':Mem),Mem.le m m''/\Mem.le m'' m'_1/\R (agg (Array.mk Zc0)) m'' []) (br b_2 (br (p1 == (0:Int)) (∃(m'':Mem),Mem.le m m''/\Mem.le m'' m'_1/\R (agg
 (Array.mk ZfW)) m'' []) (∃(m'':Mem),Mem.le m m''/\Mem.le m'' m'_1/\R (agg (Array.mk Zc0)) m'' [])) (∃(b_6:Bool),(Eng.Zvl p0 0 λ(v:Value)=>chk (ZaG i64 v&&decide (i64=i64))
 (br (RowKit.intOf v == (1:Int)) (Zaz (Za7 p0 b b_1)/\[bool true]=[bool b_6]) (br (p1 == (1:Int)) (Zaz (Za7 p0 b b_1)/\[bool (p2 == (1:Int))]=[bool b_6]) (Zaz (Za7 p0
 b b_1)/\[bool false]=[bool b_6]))))/\br b_6 (chk (Nat.beq (List.length p0) 260&&ZbA p0) (∃(m'':Mem),Mem.le m m''/\Mem.le m'' m'_1/\R (agg (Array.mk p0)) m'' [])) (chk (Nat.beq (List.length p0) 260&&true)
 (∀(b:Nat),Mem.free m'_1 b->∃(R_2:RT),True/\CX Try.prog 124 (Array.mk [agg (Array.mk (ZfX p1 p2 b))]) (Mem.add m'_1 b (List.append p0 [])) [] R_2/\Zau Shape.cells R_2/\∀(cs:List Value) (m':
 Mem),Mem.le (Mem.add m'_1 b (List.append p0 [])) m'->R_2 (agg (Array.mk cs)) m' []->chk (Nat.beq (List.length cs) 260&&ZbA cs) (∃(m'':Mem),Mem.le m m''/\Mem.le m'' m'/\R (agg (Array.mk cs)) m'' []))))))))
theorem Zkc(p0:List Value)(p1 p2:Int)(m:Mem)(R:RT)(h:ZfY p0 p1 p2 m R):CX Try.prog 120 #[.agg p0.toArray,.int .i64 p1,.int .i64 p2] m [] R:=
 Zaf (E:=Zmm) ZaH mix Try.func120 [.v (.agg p0.toArray),.v (.int .i64 p1),.v (.int .i64 p2)] [] (by kernel_rfl) (Eq.mp (by kernel_rfl) h)
noncomputable def ZiX:Env:={ EB with
 frzNew:=[1] }
abbrev Zey(b:Nat):List Value:=[int i64 6,int i64 0,int i64 0,int i64 0,int i64 0,int i64 0,int i64 0,int i64 0,int i64 0,int i64 0,int i64 0,int i64 0,int i64 0,int i64 0,int i64 0,int
 i64 0,int i64 0,int i64 0,int i64 0,int i64 0,int i64 0,int i64 0,int i64 0,int i64 0,int i64 0,int i64 0,int i64 0,int i64 0,int i64 0,int i64 0,int i64 0,int i64 0,int i64 0,int i64 0,int i64 0,int
 i64 0,int i64 0,int i64 0,int i64 0,int i64 0,int i64 0,int i64 0,int i64 0,int i64 0,int i64 0,int i64 0,int i64 0,int i64 0,int i64 0,int i64 0,int i64 0,int i64 0,int i64 0,int i64 0,int i64 0,int
 i64 0,int i64 0,int i64 0,int i64 0,int i64 0,int i64 0,int i64 0,int i64 0,int i64 0,int i64 0,int i64 0,int i64 0,int i64 0,int i64 0,int i64 0,int i64 0,int i64 0,int i64 0,int i64 0,int i64 0,int
 i64 0,int i64 0,int i64 0,int i64 0,int i64 0,int i64 0,int i64 0,int i64 0,int i64 0,int i64 0,int i64 0,int i64 0,int i64 0,int i64 0,int i64 0,int i64 0,int i64 0,int i64 0,int i64 0,int i64 0,int
 i64 0,int i64 0,int i64 0,int i64 0,int i64 0,int i64 0,int i64 0,int i64 0,int i64 0,int i64 0,int i64 0,int i64 0,int i64 0,int i64 0,int i64 0,int i64 0,int i64 0,int i64 0,int i64 0,int i64 0,int
 i64 0,int i64 0,int i64 0,int i64 0,int i64 0,int i64 0,int i64 0,int i64 0,int i64 0,int i64 0,int i64 0,int i64 0,int i64 0,int i64 0,int i64 0,int i64 0,int i64 0,int i64 0,int i64 0,int i64 0,int
 i64 0,int i64 0,int i64 0,int i64 0,int i64 0,int i64 0,int i64 0,int i64 0,int i64 0,int i64 0,int i64 0,int i64 0,int i64 0,int i64 0,int i64 0,int i64 0,int i64 0,int i64 0,int i64 0,int i64 0,int
 i64 0,int i64 0,int i64 0,int i64 0,int i64 0,int i64 0,int i64 0,int i64 0,int i64 0,int i64 0,int i64 0,int i64 0,int i64 0,int i64 0,int i64 0,int i64 0,int i64 0,int i64 0,int i64 0,int i64 0,int
 i64 0,int i64 0,int i64 0,int i64 0,int i64 0,int i64 0,int i64 0,int i64 0,int i64 0,int i64 0,int i64 0,int i64 0,int i64 0,int i64 0,int i64 0,int i64 0,int i64 0,int i64 0,int i64 0,int i64 0,int
 i64 0,int i64 0,int i64 0,int i64 0,int i64 0,int i64 0,int i64 0,int i64 0,int i64 0,int i64 0,int i64 0,int i64 0,int i64 0,int i64 0,int i64 0,int i64 0,int i64 0,int i64 0,int i64 0,int i64 0,int
 i64 0,int i64 0,int i64 0,int i64 0,int i64 0,int i64 0,int i64 0,int i64 0,int i64 0,int i64 0,int i64 0,int i64 0,int i64 0,int i64 0,int i64 0,int i64 0,int i64 0,int i64 0,int i64 0,int i64 0,int
 i64 0,int i64 0,int i64 0,int i64 0,int i64 0,int i64 0,int i64 0,int i64 0,int i64 0,int i64 0,int i64 0,int i64 0,int i64 0,int i64 0,int i64 0,int i64 0,int i64 0,int i64 0,int i64 0,int i64 0,int
 i64 0,int i64 0,int i64 0,int i64 0,slice (some (Addr.mk b 0 none)) 1 1]
def Zez(p0:List Value)(m:Mem)(R:RT):Prop:=
 chk (Nat.beq (List.length p0) 260) (∀(b:Nat)(m':Mem),Mem.le m m'->Mem.reads m' b 0 p0->∀(b:Nat),chk (Nat.beq (List.length p0) 260&&true) (∀(b:Nat),Mem.free m' b->∃(R_1:RT),True/\CX Try.prog 124
 (Array.mk [agg (Array.mk (Zey b))]) (Mem.add m' b (List.append p0 [])) [] R_1/\Zau Shape.cells R_1/\∀(cs:List Value)(m'_1:Mem),Mem.le (Mem.add m' b (List.append p0 [])) m'_1->R_1 (agg (Array.mk
 cs)) m'_1 []->chk (Nat.beq (List.length cs) 260&&ZbA cs) (∃(m'':Mem),Mem.le m m''/\Mem.le m'' m'_1/\R (agg (Array.mk cs)) m'' [])))
theorem ZhQ(p0:List Value)(m:Mem)(R:RT)(h:Zez p0 m R):CX Try.prog 121 #[.agg p0.toArray] m [] R:=
 Zaf (E:=ZiX) ZaH mix Try.func121 [.v (.agg p0.toArray)] [] (by kernel_rfl) (Eq.mp (by kernel_rfl) h)
end Go.Proofs.Ytfgfahnakepegaa
set_option linter.unusedVariables false
set_option linter.unusedSimpArgs false
namespace Go.Proofs.Ytfgfahnakepegaa
open Go Go.Eng Go.Rx Go.Proofs Go.RowKit
set_option maxRecDepth 100000
def ZtQ(E:T):Value->Mem->List (List Value)->Prop:=λv m' _=>∃cs,v=.agg cs.toArray/\RefT m' E cs
theorem Zbf{E:T}:∀(v:Value)(m':Mem) (css:List (List Value)),ZtQ E v m' css->Shape.fits .cells v=true:=λv _ _ ⟨_,h,_⟩=>by rw[h];rfl
theorem Zhn{E:T}{m:Mem}{K:List Value->Mem->Prop}(k:∀(cs:List Value)(m':Mem),m.le m'->RefT m' E cs->K cs m'):∀(cs:List Value)(m':Mem),m.le m'->ZtQ E (.agg (Array.mk cs)) m' []->K cs m':=by
 rintro cs m' hm ⟨ds,e,h⟩
 simp only[Value.agg.injEq,Array.mk.injEq]at e
 subst e
 exact k _ m' hm h
theorem ZiY(k mn mx:Int)(a:Option Addr)(n c:Nat):(Value.int .i64 k::(List.replicate 256 (.int .i64 0)++[.int .i64 mn,.int .i64 mx,.slice a n c]))=rcs k (0,0,0,0) mn mx a n c:=by rw[ZtB];rfl
theorem ZvW{k mn mx:Int}(hk:0<=k/\k < 256)(h1 : -9223372036854775808<=mn/\mn<=9223372036854775807)(h2 : -9223372036854775808<=mx/\mx<=9223372036854775807):OkN k 0 0 0 0 mn mx:=⟨hk,⟨by decide,by decide⟩,⟨by decide,by decide⟩,⟨by decide,by decide⟩,⟨by decide,by decide⟩,h1,h2⟩
theorem ZqM{m:Mem}{k mn mx:Int}{l:List T}{a:Option Addr}{c:Nat}{css:List (List Value)}(hk:0<=k/\k < 256)(h1 : -9223372036854775808<=mn/\mn<=9223372036854775807)(h2 : -9223372036854775808<=mx/\mx<=9223372036854775807)(hl:l.length<=1000000)(hr:rowRd m a css.flatten)(bP:RefAt m l css)(hc:l.length<=c):RefT m (ZbV k mn mx none 0 l) (rcs k (0,0,0,0) mn mx a l.length c):=
 ZaX.2 ⟨ZvW hk h1 h2,hl,a,c,css,rfl,hr,bP,hc⟩
theorem ZyM(m:Mem):RefT m T1 (rcs 1 (0,0,0,0) 0 0 none 0 0):=ZaX.2 ⟨ZvW ⟨by decide,by decide⟩ ⟨by decide,by decide⟩ ⟨by decide,by decide⟩,by decide,none,0,[],rfl,.inl rfl,by simp[T1,T.subs,RefAt],Nat.le_refl _⟩
theorem ZyN:Zhh=rcs 0 (0,0,0,0) 0 0 none 0 0:=ZiY 0 0 0 none 0 0
theorem ZyO:Zhj=rcs 0 (0,0,0,0) 0 0 none 0 0:=ZiY 0 0 0 none 0 0
theorem ZzX:ZiU=rcs 1 (0,0,0,0) 0 0 none 0 0:=ZiY 1 0 0 none 0 0
theorem ZzY(a:Option Addr)(n c:Nat):ZiV a n c=rcs 3 (0,0,0,0) 0 0 a n c:=ZiY 3 0 0 a n c
theorem ZBg(a:Option Addr)(n c:Nat):Zk4 a n c=rcs 4 (0,0,0,0) 0 0 a n c:=ZiY 4 0 0 a n c
theorem Zw0(mn mx:Int)(b:Nat):ZfX mn mx b=rcs 5 (0,0,0,0) mn mx (some ⟨b,0,none⟩) 1 1:=ZiY 5 mn mx (some ⟨b,0,none⟩) 1 1
theorem Zsm(b:Nat):Zey b=rcs 6 (0,0,0,0) 0 0 (some ⟨b,0,none⟩) 1 1:=ZiY 6 0 0 (some ⟨b,0,none⟩) 1 1
theorem ZyP(t:T)(cs:List Value)(m:Mem)(hr:RefT m t cs):CX Try.prog 124 #[.agg cs.toArray] m [] (ZtQ (if t.clean then t else T0)):=by
 apply Zmk
 unfold Zhi
 refine hr.chk λb m1 aO _ b1=>Zak (ZgA t cs m1 (hr.mono aO)) λm2 aP=>Zab (λh=>hr.chk1 (Zaj (mLt aO aP) ?_)) (λh=>Zaj (mLt aO aP) ?_)
 ·rw[h,if_pos rfl];exact⟨cs,rfl,hr⟩
 ·rw[h,ZyN];exact⟨_,rfl,Zvd _⟩
theorem Zej(t:T)(cs:List Value)(m:Mem)(hr:RefT m t cs)(hg:t.good=true)(hs:t.nodes.length<=10000):CX Try.prog 124 #[.agg cs.toArray] m [] (ZtQ t):=by
 have:=ZyP t cs m hr
 rw[Za6 hg hs,if_pos rfl]at this
 exact this
theorem ZvX(t:T)(cs:List Value)(m:Mem)(hr:RefT m t cs):CX Try.prog 125 #[.agg cs.toArray] m [] (Ret (.bool (t.same T0))):=by
 apply Zml
 unfold Zhk
 rw[ZyO]
 exact hr.chk λb m1 aO _=>Zak (ZtD t T0 cs _ m1 (hr.mono aO) (Zvd _)) λm2 aP=>Zaj (mLt aO aP) rfl
theorem ZqN{t:T}(h:t.good=true):t.same T0=false:=by
 have hk:=Zn9 h
 rw[ZwY]
 have:(t.k == T0.k)=false:=by simpa[T0,T.k]using hk
 rw[this];rfl
theorem ZnK{k w:Int}{L:List T}{i:Nat}{x:T}(h:L[i]?=some x):ZaW k w (L.take (i+1))=ZaW k w (L.take i)++ZbK k w x:=by
 rw[List.take_add_one,h]
 show ZaW k w (L.take i++[x])=_
 rw[Zio]
 simp[ZaW]
theorem Zc1{k w:Int}(L:List T)(i:Nat):(ZaW k w (L.take i)).length<=szL L:=by
 have h1:=ZeF (k:=k) (w:=w) (L.take i)
 have h2:=ZbN (ZaW k w (L.take i))
 have h3:=Zcy L i
 omega
theorem Zdb{m:Mem}{b:Nat}{cs:List Value}:rowRd (m.add b (List.append cs [])) (some ⟨b,0,none⟩) cs:=.inr ⟨b,0,rfl,λj u hj=>by rw[Nat.zero_add,Mem.add_same];show(cs++[])[j]?=_;rw[List.append_nil];exact hj⟩
theorem Zmn{m:Mem}{a:Option Addr}{css dss:List (List Value)}(h:rowRd m a (List.append css.flatten dss.flatten)):rowRd m a (css++dss).flatten:=by
 rw[List.flatten_append];exact h
theorem ZdF{m:Mem}{a:Option Addr}{css:List (List Value)}{cs:List Value}(h:rowRd m a (List.append css.flatten cs)):rowRd m a (css++[cs]).flatten:=by
 rw[List.flatten_append,List.flatten_singleton];exact h
theorem Zfw{m:Mem}{b o:Nat}{cs:List Value}(h:m.reads b o cs){j:Nat}{v:Value}(hv:cs[j]?=some v):m b (o+j)=some v:=h j v hv
theorem Zk6{k w:Int}(hk:k=3/\w=1\/k=4/\w=0){L:List T}(h:∀x∈L,x.good=true):(ZcF k none 0 (ZaW k w L)).good=true/\(ZcF k none 0 (ZaW k w L)).nodes.length<=1+szL L:=by
 rcases hk with⟨rfl,rfl⟩|⟨rfl,rfl⟩
 ·have:=Zim h
  have h1:=this.good
  have h2:=this.sz
  unfold ZjK at h1 h2
  rw[Zcv]at h1
  rw[ZfE]at h2
  exact⟨h1,h2⟩
 ·have:=Ze5 h
  have h1:=this.good
  have h2:=this.sz
  unfold Zee at h1 h2
  rw[Zcv]at h1
  rw[ZfE]at h2
  exact⟨h1,h2⟩
set_option maxHeartbeats 1600000 in
theorem ZtE(L:List T)(css:List (List Value))(a:Option Addr)(c:Nat)(m:Mem)(hr:rowRd m a css.flatten)(bP:RefAt m L css)(hg:∀x∈L,x.good=true)(hs:szL L<=9000):CX Try.prog 118 #[.slice a L.length c] m [] (ZtQ (ZjK L)):=by
 apply Zox
 unfold ZiW
 have aU:=ZbN L
 intro b
 refine⟨λxs _ tvs m' q=>∃(i:Nat)(a1:Option Addr)(c1:Nat) (R:List (List Value)),i<=L.length/\xs=[.slice a1 (ZaW 3 1 (L.take i)).length c1,.int .i64 i]/\tvs=[.slice a1 (ZaW 3 1 (L.take i)).length c1]/\rowRd m' a1 R.flatten/\RefAt m' (ZaW 3 1 (L.take i)) R/\(ZaW 3 1 (L.take i)).length<=c1/\q=L.length - i,⟨_,0,none,0,[],Nat.zero_le _,rfl,rfl,.inl rfl,by simp[ZaW,RefAt],Nat.le_refl _,rfl⟩,?_⟩
 rintro a1 n1 c1 z cs a2 n2 c2 m1 q aO ⟨i,a',c',R,hi,bB,cF,aR,hR,bM,hq⟩
 simp only[List.cons.injEq,Value.slice.injEq,Value.int.injEq,true_and,and_true]at bB cF
 obtain⟨⟨rfl,rfl,rfl⟩,rfl⟩:=bB
 obtain⟨rfl,rfl,rfl⟩:=cF
 subst hq
 refine ZbF (λaS=>?_) (λbR=>?_)
 ·have aQ:i < L.length:=by omega
  obtain⟨x,hx⟩:=ZaY aQ
  have cN:=List.mem_of_getElem? hx
  obtain⟨b0,o0,cs2,rfl,bC,bW⟩:=Zb1 hr bP hx
  have nA:=hg x cN
  have bB:=Zbz cN
  have dB:Zad (i:Int) L.length:=⟨by omega,by omega⟩
  have iH:=hR.len
  have fJ:=ZbU hR.all
  have cM:=ZnK (k:=3) (w:=1) hx
  have kT:=Zc1 (k:=3) (w:=1) L i
  have rj:=Zc1 (k:=3) (w:=1) L (i+1)
  have hw:IntKind.i64.wrap ((i:Int)+1)=((i+1:Nat):Int):=by rw[ZaA (by omega) (by omega)];rfl
  simp only[hw,Int.toNat_natCast]
  refine⟨b0,o0,rfl,dB,cs2,bW.len,bC.mono aO,Zak (ZgA x cs2 m1 (bW.mono aO)) λm2 aP=>?_⟩
  rw[Za6 nA (by omega)]
  have bY:=mLt aO aP
  have jK:=Zfw (bC.mono bY) bW.at0
  refine Zb6 rfl ⟨b0,o0,rfl,dB,_,jK,Zaa rfl (ZdE (λhk=>?_) (λhk=>⟨b0,o0,rfl,dB,_,jK,Zaa rfl (Zab (λhG=>?_) (λhG=>?_))⟩))⟩
  ·have hk:x.k=3:=hk
   have gT:ZbK 3 1 x=x.subs:=by unfold ZbK;rw[if_pos hk]
   rw[gT]at cM
   obtain⟨_,_,xa,xc,ds,rfl,lU,gQ,_⟩:=ZaX.1 bW
   have pD:=gQ.len
   have vB:=ZbU gQ.all
   have bX:=congrArg List.length cM
   rw[List.length_append]at bX
   refine⟨b0,o0,rfl,dB,_,Zfw (bC.mono bY) (Zqg _ _ _ _ _ _ _),Zaa rfl ⟨.inl trivial,R.flatten,ds.flatten,by rw[fJ,iH],by rw[vB,pD];rfl,aR.mono aP,lU.mono bY,Zfs gQ,by simp only[slN];omega,by simp only[slN];omega,λa7 c7 m7 dA eW lM=>⟨by trivial,L.length - (i+1),by omega,i+1,a7,c7,R++ds,by omega,?_,?_,Zmn eW,?_,by rw[bX];exact lM,rfl⟩⟩⟩
   ·rw[bX];rfl
   ·rw[bX];rfl
   ·rw[cM]
    exact(hR.mono (mLt aP dA)).append (gQ.mono (mLt bY dA))
  ·have pQ:¬x.k=1:=by simpa[intOf]using hG
   have eO:¬x.k=3:=hk
   have gT:ZbK 3 1 x=[x]:=by unfold ZbK;rw[if_neg eO,if_neg pQ]
   rw[gT]at cM
   have bX:=congrArg List.length cM
   rw[List.length_append]at bX
   simp only[List.length_cons,List.length_nil]at bX
   refine⟨b0,o0,rfl,dB,cs2,bW.len,bC.mono bY,bW.chk2 λb6 lX=>⟨.inl trivial,R.flatten,cs2,by rw[fJ,iH],by rw[bW.len],(aR.mono aP).mono (Mem.le_add lX _),Zdb,bW.one,by omega,by omega,λa7 c7 m7 dA eW lM=>⟨by trivial,L.length - (i+1),by omega,i+1,a7,c7,R++[cs2],by omega,?_,?_,ZdF eW,?_,by rw[bX];exact lM,rfl⟩⟩⟩
   ·rw[bX]
   ·rw[bX]
   ·rw[cM]
    have h7:=mLt (Mem.le_add lX _) dA
    exact(hR.mono (mLt aP h7)).append (RefAt.one (bW.mono (mLt bY h7)))
  ·have pQ:x.k=1:=by simpa[intOf]using hG
   have eO:¬x.k=3:=hk
   have gT:ZbK 3 1 x=[]:=by unfold ZbK;rw[if_neg eO,if_pos pQ]
   rw[gT,List.append_nil]at cM
   exact⟨by trivial,L.length - (i+1),by omega,i+1,_,_,R,by omega,by rw[cM],by rw[cM],aR.mono aP,by rw[cM];exact hR.mono aP,by rw[cM];exact bM,rfl⟩
 ·have:i=L.length:=by omega
  subst this
  rw[List.take_length]at hR bM ⊢
  have hj:=Zk6 (w:=1) (.inl ⟨rfl,rfl⟩) hg
  have nW:=ZeF (k:=3) (w:=1) L
  have fJ:=ZbN (ZaW 3 1 L)
  have he:ZjK L=(ZcF 3 none 0 (ZaW 3 1 L)).er:=rfl
  generalize ZaW 3 1 L=F at *
  match F,hR,bM with
  | [],hR,_=>
   refine Zko rfl (Zaj aO ?_)
   rw[ZzX,he]
   exact⟨_,rfl,ZyM _⟩
  | [x],hR,_=>
   refine Zb6 rfl (Zko rfl ?_)
   obtain⟨b0,o0,cs2,rfl,bC,bW⟩:=Zb1 aR hR (i:=0) (t:=x) rfl
   refine⟨b0,o0,rfl,⟨by omega,by simp⟩,cs2,bW.len,by simpa using bC,bW.chk1 ⟨m1,aO,Mem.le_refl _,cs2,rfl,?_⟩⟩
   rw[he]
   exact bW.of_er (by show x.er=x.er.er;rw[Zef])
  | x::y::F,hR,bM=>
   refine Zb6 (by simp;omega) (Zb6 (by simp;omega) ?_)
   rw[ZzY]
   have h1:=ZqM (k:=3) (mn:=0) (mx:=0) (c:=c2) ⟨by decide,by decide⟩ ⟨by decide,by decide⟩ ⟨by decide,by decide⟩ (by omega) aR hR bM
   refine Zag (Zej _ _ m1 h1 hj.1 (by have:=hj.2;show(ZcF 3 none 0 (x::y::F)).nodes.length<=_;omega)) Zbf (Zhn λcs3 m3 aX h3=>h3.chk1 ⟨m3,mLt aO aX,Mem.le_refl _,cs3,rfl,?_⟩)
   rw[he]
   exact(Zg6 _ _).2 h3
set_option maxHeartbeats 1600000 in
theorem ZyQ(L:List T)(css:List (List Value))(a:Option Addr)(c:Nat)(m:Mem)(hr:rowRd m a css.flatten)(bP:RefAt m L css)(hg:∀x∈L,x.good=true)(hs:szL L<=9000)(bS:L≠[]):CX Try.prog 119 #[.slice a L.length c] m [] (ZtQ (Zee L)):=by
 apply ZqL
 unfold Zk5
 have aU:=ZbN L
 intro b
 refine⟨λxs _ tvs m' q=>∃(i:Nat)(a1:Option Addr)(c1:Nat) (R:List (List Value)),i<=L.length/\xs=[.slice a1 (ZaW 4 0 (L.take i)).length c1,.int .i64 i]/\tvs=[.slice a1 (ZaW 4 0 (L.take i)).length c1]/\rowRd m' a1 R.flatten/\RefAt m' (ZaW 4 0 (L.take i)) R/\(ZaW 4 0 (L.take i)).length<=c1/\q=L.length - i,⟨_,0,none,0,[],Nat.zero_le _,rfl,rfl,.inl rfl,by simp[ZaW,RefAt],Nat.le_refl _,rfl⟩,?_⟩
 rintro a1 n1 c1 z cs a2 n2 c2 m1 q aO ⟨i,a',c',R,hi,bB,cF,aR,hR,bM,hq⟩
 simp only[List.cons.injEq,Value.slice.injEq,Value.int.injEq,true_and,and_true]at bB cF
 obtain⟨⟨rfl,rfl,rfl⟩,rfl⟩:=bB
 obtain⟨rfl,rfl,rfl⟩:=cF
 subst hq
 refine ZbF (λaS=>?_) (λbR=>?_)
 ·have aQ:i < L.length:=by omega
  obtain⟨x,hx⟩:=ZaY aQ
  have cN:=List.mem_of_getElem? hx
  obtain⟨b0,o0,cs2,rfl,bC,bW⟩:=Zb1 hr bP hx
  have nA:=hg x cN
  have bB:=Zbz cN
  have dB:Zad (i:Int) L.length:=⟨by omega,by omega⟩
  have iH:=hR.len
  have fJ:=ZbU hR.all
  have cM:=ZnK (k:=4) (w:=0) hx
  have kT:=Zc1 (k:=4) (w:=0) L i
  have rj:=Zc1 (k:=4) (w:=0) L (i+1)
  have hw:IntKind.i64.wrap ((i:Int)+1)=((i+1:Nat):Int):=by rw[ZaA (by omega) (by omega)];rfl
  simp only[hw,Int.toNat_natCast]
  refine⟨b0,o0,rfl,dB,cs2,bW.len,bC.mono aO,Zak (ZvX x cs2 m1 (bW.mono aO)) λm2 aP=>?_⟩
  rw[ZqN nA]
  have bY:=mLt aO aP
  refine Zb6 rfl ⟨b0,o0,rfl,dB,cs2,bW.len,bC.mono bY,Zak (ZgA x cs2 m2 (bW.mono bY)) λm3 aX=>?_⟩
  rw[Za6 nA (by omega)]
  have qL:=mLt aP aX
  have bT:=mLt bY aX
  have jK:=Zfw (bC.mono bT) bW.at0
  refine Zb6 rfl ⟨b0,o0,rfl,dB,_,jK,Zaa rfl (ZdE (λhk=>?_) (λhk=>?_))⟩
  ·have hk:x.k=4:=hk
   have gT:ZbK 4 0 x=x.subs:=by unfold ZbK;rw[if_pos hk]
   rw[gT]at cM
   obtain⟨_,_,xa,xc,ds,rfl,lU,gQ,_⟩:=ZaX.1 bW
   have pD:=gQ.len
   have vB:=ZbU gQ.all
   have bX:=congrArg List.length cM
   rw[List.length_append]at bX
   refine⟨b0,o0,rfl,dB,_,Zfw (bC.mono bT) (Zqg _ _ _ _ _ _ _),Zaa rfl ⟨.inl trivial,R.flatten,ds.flatten,by rw[fJ,iH],by rw[vB,pD];rfl,aR.mono qL,lU.mono bT,Zfs gQ,by simp only[slN];omega,by simp only[slN];omega,λa7 c7 m7 dA eW lM=>⟨by trivial,L.length - (i+1),by omega,i+1,a7,c7,R++ds,by omega,?_,?_,Zmn eW,?_,by rw[bX];exact lM,rfl⟩⟩⟩
   ·rw[bX];rfl
   ·rw[bX];rfl
   ·rw[cM]
    exact(hR.mono (mLt qL dA)).append (gQ.mono (mLt bT dA))
  ·have qv:¬x.k=4:=hk
   have gT:ZbK 4 0 x=[x]:=by unfold ZbK;rw[if_neg qv,if_neg (Zn9 nA)]
   rw[gT]at cM
   have bX:=congrArg List.length cM
   rw[List.length_append]at bX
   simp only[List.length_cons,List.length_nil]at bX
   refine⟨b0,o0,rfl,dB,cs2,bW.len,bC.mono bT,bW.chk2 λb6 lX=>⟨.inl trivial,R.flatten,cs2,by rw[fJ,iH],by rw[bW.len],(aR.mono qL).mono (Mem.le_add lX _),Zdb,bW.one,by omega,by omega,λa7 c7 m7 dA eW lM=>⟨by trivial,L.length - (i+1),by omega,i+1,a7,c7,R++[cs2],by omega,?_,?_,ZdF eW,?_,by rw[bX];exact lM,rfl⟩⟩⟩
   ·rw[bX]
   ·rw[bX]
   ·rw[cM]
    have h7:=mLt (Mem.le_add lX _) dA
    exact(hR.mono (mLt qL h7)).append (RefAt.one (bW.mono (mLt bT h7)))
 ·have:i=L.length:=by omega
  subst this
  rw[List.take_length]at hR bM ⊢
  have hj:=Zk6 (w:=0) (.inr ⟨rfl,rfl⟩) hg
  have nW:=ZeF (k:=4) (w:=0) L
  have fJ:=ZbN (ZaW 4 0 L)
  have he:Zee L=(ZcF 4 none 0 (ZaW 4 0 L)).er:=rfl
  have jJ:ZaW 4 0 L≠[]:=by
   match L,bS with
   | x::l,_=>
    rw[Zct]
    have:=Zo0 (hg x (by simp))
    simp[this]
  generalize ZaW 4 0 L=F at *
  match F,hR,bM with
  | [],hR,_=>exact absurd rfl jJ
  | [x],hR,_=>
   refine Zb6 rfl (Zko rfl ?_)
   obtain⟨b0,o0,cs2,rfl,bC,bW⟩:=Zb1 aR hR (i:=0) (t:=x) rfl
   refine⟨b0,o0,rfl,⟨by omega,by simp⟩,cs2,bW.len,by simpa using bC,bW.chk1 ⟨m1,aO,Mem.le_refl _,cs2,rfl,?_⟩⟩
   rw[he]
   exact bW.of_er (by show x.er=x.er.er;rw[Zef])
  | x::y::F,hR,bM=>
   refine Zb6 (by simp;omega) (Zb6 (by simp;omega) ?_)
   rw[ZBg]
   have h1:=ZqM (k:=4) (mn:=0) (mx:=0) (c:=c2) ⟨by decide,by decide⟩ ⟨by decide,by decide⟩ ⟨by decide,by decide⟩ (by omega) aR hR bM
   refine Zag (Zej _ _ m1 h1 hj.1 (by have:=hj.2;show(ZcF 4 none 0 (x::y::F)).nodes.length<=_;omega)) Zbf (Zhn λcs3 m3 aX h3=>h3.chk1 ⟨m3,mLt aO aX,Mem.le_refl _,cs3,rfl,?_⟩)
   rw[he]
   exact(Zg6 _ _).2 h3
theorem ZqO(t:T)(cs:List Value)(m:Mem)(hr:RefT m t cs)(hg:t.good=true)(hs:t.nodes.length<=9000):CX Try.prog 121 #[.agg cs.toArray] m [] (ZtQ (ZbV 6 0 0 none 0 [t])):=by
 apply ZhQ
 unfold Zez
 refine hr.chk λb m1 aO _ b1=>hr.chk2 λb2 nS=>?_
 have bE:=mLt aO (Mem.le_add nS (List.append cs []))
 rw[Zsm]
 have h1:=ZqM (k:=6) (mn:=0) (mx:=0) (l:=[t]) (css:=[cs]) (a:=some ⟨b2,0,none⟩) (c:=1) ⟨by decide,by decide⟩ ⟨by decide,by decide⟩ ⟨by decide,by decide⟩ (by simp) (by rw[List.flatten_singleton];exact Zdb) (RefAt.one (hr.mono bE)) (Nat.le_refl _)
 refine Zag (Zej _ _ _ h1 (Zo4 hg) (by rw[Zcr];show 1+szL [t]<=_;rw[Zdy];omega)) Zbf (Zhn λcs3 m3 aX h3=>h3.chk1 ⟨m3,mLt bE aX,Mem.le_refl _,cs3,rfl,h3⟩)
theorem Zve(t:T)(cs:List Value)(mn mx:Int)(m:Mem)(hr:RefT m t cs)(hg:t.good=true)(hs:t.nodes.length<=9000)(hb:Zcc mn mx=true)(hk:t.k≠1):CX Try.prog 120 #[.agg cs.toArray,.int .i64 mn,.int .i64 mx] m [] (ZtQ (ZbV 5 mn mx none 0 [t])):=by
 apply Zkc
 unfold ZfY
 have dM:(0<=mn/\mn<=16/\-1<=mx/\mx<=16)/\¬(mn=1/\mx=1)/\mx≠0:=by
  unfold Zcc at hb
  simp only[Bool.and_eq_true,Bool.not_eq_true',Bool.or_eq_false_iff,Bool.or_eq_true,decide_eq_false_iff_not,decide_eq_true_eq,beq_iff_eq,Bool.and_eq_false_iff,beq_eq_false_iff_ne]at hb
  omega
 refine hr.chk λb m1 aO _ b1=>Zak (ZvX t cs m1 (hr.mono aO)) λm2 aP=>?_
 rw[ZqN hg]
 have bY:=mLt aO aP
 have qH:=ZnJ mn mx m2
 rw[hb]at qH
 refine⟨false,Zko rfl (Zak (ZgA t cs m2 (hr.mono bY)) λm3 aX=>⟨by trivial,by rw[Za6 hg (by omega)];rfl⟩),Zb6 rfl ⟨false,ZdE (λh=>⟨by trivial,?_⟩) (λh=>⟨by trivial,rfl⟩),Zb6 rfl ⟨false,ZdE (λh=>Zab (λh2=>Zak qH λm3 aX=>⟨by trivial,rfl⟩) (λh2=>⟨by trivial,rfl⟩)) (λh=>Zak qH λm3 aX=>⟨by trivial,rfl⟩),Zb6 rfl (Zb6 rfl ⟨false,?_,Zb6 rfl (hr.chk2 λb5 qM=>?_)⟩)⟩⟩⟩
 ·have:(mx == 0)=false:=by simpa using dM.2.2
  rw[this]
 ·refine Zas hr.at0 (Zaa rfl (ZdE (λh=>absurd h hk) (λh=>ZdE (λh2=>⟨by trivial,?_⟩) (λh2=>⟨by trivial,rfl⟩))))
  have:(mx == 1)=false:=by
   have:=dM.2.1
   simpa[h2]using this
  rw[this]
 ·have bE:=mLt bY (Mem.le_add qM (List.append cs []))
  rw[Zw0]
  have h1:=ZqM (k:=5) (mn:=mn) (mx:=mx) (l:=[t]) (css:=[cs]) (a:=some ⟨b5,0,none⟩) (c:=1) ⟨by decide,by decide⟩ (by omega) (by omega) (by simp) (by rw[List.flatten_singleton];exact Zdb) (RefAt.one (hr.mono bE)) (Nat.le_refl _)
  exact Zag (Zej _ _ _ h1 (Zp8 hb hk hg) (by rw[Zcr];show 1+szL [t]<=_;rw[Zdy];omega)) Zbf (Zhn λcs3 m3 aX h3=>h3.chk1 ⟨m3,mLt bE aX,Mem.le_refl _,cs3,rfl,h3⟩)
end Go.Proofs.Ytfgfahnakepegaa
