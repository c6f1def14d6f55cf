/- Part of the proof: functions of the program. No condition. -/
import Derived.Test.YtdopppmkbkkmiaaGreatDoorPC25H
import Derived.Test.YtdopppmkbkkmiaaGreatDoorMr
set_option linter.unusedVariables false
set_option linter.unusedSimpArgs false
set_option linter.unusedSectionVars false
namespace Go.Proofs.YtdopppmkbkkmiaaGreatDoor
open Go Go.Eng Go.Rx Go.Proofs Go.RowKit
set_option maxRecDepth 100000
def Zwt(a:Ac):Bool:=!ZaX a.k 1 3||(a.k == 1&&!(a.s.size == 0))||(a.k == 3&&decide (a.parts.length > 0))||(a.k == 3&&!a.e.clean)||(!(a.k == 3)&&!Zma a.e)||decide (a.parts.length > 16)
theorem Zr0(a:Ac)(m:Mem)(b b1:Nat)(hr:RepA m a)(hb:m.reads b 0 a.cs)(cM:m.reads b1 0 [.bool (a.k == 3)]):CX Tryz.prog 135 #[.pointer (some ⟨b,0,none⟩),.pointer (some ⟨b1,0,none⟩)] m [] (Ret (.bool (Zwt a))):=by
 apply ZfR (c0b:=b) (c0o:=0) (c1b:=b1) (c1o:=0)
 have hw:IntKind.i64.wrap a.k=a.k:=Zal (by have:=hr.k;omega) (by have:=hr.k;omega)
 have num:∀{M:Mem} {Q:Bool->Prop},m.le M->Q (a.k == 3)->∃v:Value,M.c b1 0=some v/\∃x:Bool,v=.bool x/\Q x:=λhM h=>⟨_,(cM.mono hM) 0 _ rfl,_,rfl,h⟩
 have big:∀{M:Mem},m.le M->Zwt a=decide (a.parts.length > 16)->∃v:Value,M.c b (0+2)=some v/\chk (Za8 v) ([Value.bool (decide ((slN v:Int) > 16))]=[Value.bool (Zwt a)]):=λhM h=>⟨_,(hb.mono hM) 2 _ rfl,Zaa rfl (Zaf (by
  rw[h]
  show decide ((a.parts.length:Int) > 16)=decide (a.parts.length > 16)
  rw[decide_eq_decide];omega))⟩
 refine⟨Zwt a,?_,Zac (Mem.le_refl m) rfl⟩
 refine⟨_,hb 0 _ rfl,Zaa rfl ?_⟩
 show ∃R:RT,True/\CX Tryz.prog 124 #[.int .i64 (IntKind.i64.wrap a.k),.int .i64 1,.int .i64 3] m [] R/\_
 rw[hw]
 refine Zah (ZeJ a.k 1 3 m) λm1 aB=>Zab (λh=>Zaf ?_) (λgX=>⟨_,(hb.mono aB) 0 _ rfl,Zaa rfl ?_⟩)
 ·unfold Zwt;rw[h];rfl
 cases hn:(a.k == 3)with
 | true=>
  have hk:a.k=3:=by simpa using hn
  refine Zfj (by show(a.k == 1)=false;rw[hk];rfl) (num aB (Ztv hn ⟨_,(hb.mono aB) 2 _ rfl,Zaa rfl (Zav (λh=>Zaf ?_) (λh=>num aB (Ztv hn ⟨_,_,_,_,_,Zb5 (hb.mono aB) 3 5,Zah (Zqq a.e m1 (RepE.mono aB _ hr.e)) λm2 aH=>Zab (λh2=>Zaf ?_) (λh2=>num (mLt aB aH) (Zfj (by rw[hn];rfl) (big (mLt aB aH) ?_)))⟩)))⟩))
  ·have h:(a.parts.length:Int) > 0:=h
   unfold Zwt;rw[hn,decide_eq_true (p:=a.parts.length > 0) (by omega),gX];simp
  ·have h:¬(a.parts.length:Int) > 0:=h
   unfold Zwt;rw[hn,h2];simp
  ·have h:¬(a.parts.length:Int) > 0:=h
   unfold Zwt;rw[hn,h2,gX,decide_eq_false (p:=a.parts.length > 0) (by omega),hk];simp
 | false=>
  refine Zab (λh1=>⟨_,(hb.mono aB) 1 _ rfl,Zaa rfl (Zab (λh=>Zaf ?_) (λh=>num aB (Zfj hn (num aB (Zfj hn (num aB (Ztv (by rw[hn];rfl) ⟨_,_,_,_,_,Zb5 (hb.mono aB) 3 5,Zah (Zwr a.e m1 (RepE.mono aB _ hr.e)) λm2 aH=>Zab (λh2=>Zaf ?_) (λh2=>big (mLt aB aH) ?_)⟩)))))))⟩)
   (λh1=>num aB (Zfj hn (num aB (Zfj hn (num aB (Ztv (by rw[hn];rfl) ⟨_,_,_,_,_,Zb5 (hb.mono aB) 3 5,Zah (Zwr a.e m1 (RepE.mono aB _ hr.e)) λm2 aH=>Zab (λh2=>Zaf ?_) (λh2=>big (mLt aB aH) ?_)⟩))))))
  ·have h1:(a.k == 1)=true:=h1
   have h:(!(a.s.size == 0))=true:=by rw[<-Zcs];exact h
   unfold Zwt;rw[h1,h];simp
  ·unfold Zwt;rw[hn,h2];simp
  ·have h:(!(a.s.size == 0))=false:=by rw[<-Zcs];exact h
   unfold Zwt;rw[hn,h2,h,gX];simp
  ·unfold Zwt;rw[hn,h2];simp
  ·have h1:(a.k == 1)=false:=h1
   unfold Zwt;rw[hn,h2,h1,gX];simp
def Zz1(s:Sc)(a:Ac):Bool:=(!(a.k == 1)&&(!(Zba s a.s).2||!((Zba s a.s).1 == (a.k == 3))))||(a.k == 3&&!Za0 s a.e)
theorem Zr1(s:Sc)(a:Ac)(m:Mem)(b b1 b2:Nat)(hs:RepC m s)(hr:RepA m a)(hb:m.reads b 0 s.cs)(cM:m.reads b1 0 a.cs)(eR:m.reads b2 0 [.bool (a.k == 3)]):
  CX Tryz.prog 138 #[.pointer (some ⟨b,0,none⟩),.pointer (some ⟨b1,0,none⟩),.pointer (some ⟨b2,0,none⟩)] m [] (Ret (.bool (Zz1 s a))):=by
 apply ZfS (c0b:=b) (c0o:=0) (c1b:=b1) (c1o:=0) (c2b:=b2) (c2o:=0)
 refine⟨_,_,_,hb,_,cM 1 _ rfl,Zaj (Zth s a.s m hs) (λv _ _ e=>by rw[show v=_ from e];rfl) ?_⟩
 intro x y m1 aB hv
 have hv:Value.tuple (Array.mk [Value.bool x,Value.bool y])=Value.tuple #[.bool (Zba s a.s).1,.bool (Zba s a.s).2]:=hv
 simp only[Value.tuple.injEq,Array.mk.injEq,List.cons.injEq,Value.bool.injEq,and_true]at hv
 obtain⟨rfl,rfl⟩:=hv
 have num:∀{M:Mem} {Q:Bool->Prop},m.le M->Q (a.k == 3)->∃v:Value,M.c b2 0=some v/\∃x:Bool,v=.bool x/\Q x:=λhM h=>⟨_,(eR.mono hM) 0 _ rfl,_,rfl,h⟩
 have three:Zz1 s a=(a.k == 3&&!Za0 s a.e)->∃v:Value,m1.c b2 0=some v/\∃x:Bool,v=.bool x/\br x (∃v v4 v5:Value,m1.reads b 0 [v,v4,v5]/\∃v6 v7 v8 v9 v10:Value,m1.reads b1 (0+3) [v6,v7,v8,v9,v10]/\∃R:RT,True/\CX Tryz.prog 140 #[.agg #[v,v4,v5],.agg #[v6,v7,v8,v9,v10]] m1 [] R/\Za7 .bool R/\∀(x:Bool)(m':Mem),m1.le m'->R (.bool x) m' []->[Value.bool !x]=[Value.bool (Zz1 s a)]) ([Value.bool false]=[Value.bool (Zz1 s a)]):=λhe=>num aB (Zab (λh3=>⟨_,_,_,hb.mono aB,_,_,_,_,_,Zb5 (cM.mono aB) 3 5,Zah (Zix s a.e m1 (hs.mono aB) (RepE.mono aB _ hr.e)) λm2 aH=>Zaf (by rw[he,h3];rfl)⟩) (λh3=>Zaf (by rw[he,h3];rfl)))
 refine⟨Zz1 s a,⟨_,(cM.mono aB) 0 _ rfl,Zaa rfl (Zab (λh1=>Zab (λh2=>Zaf ?_) (λh2=>num aB (Zab (λh3=>Zaf ?_) (λh3=>three ?_)))) (λh1=>three ?_))⟩,Zac aB rfl⟩
 ·have h1:(!(a.k == 1))=true:=h1
  unfold Zz1;rw[h1,h2];rfl
 ·have h1:(!(a.k == 1))=true:=h1
  unfold Zz1;rw[h1,h3];simp
 ·have h1:(!(a.k == 1))=true:=h1
  unfold Zz1;rw[h1,h2,h3];rfl
 ·have h1:(!(a.k == 1))=false:=h1
  unfold Zz1;rw[h1];rfl
def ZCb(r:Ru)(a:Ac):Bool:=a.k == 3&&decide (a.e.most > Zbv r)
theorem Zr2(r:Ru)(a:Ac)(m:Mem)(b b1 b2:Nat)(hr:RepR m r)(ha:RepA m a)(hb:m.reads b 0 [.bool (a.k == 3)])(cM:m.reads b1 0 a.cs)(eR:m.reads b2 0 r.cs):
  CX Tryz.prog 141 #[.pointer (some ⟨b,0,none⟩),.pointer (some ⟨b1,0,none⟩),.pointer (some ⟨b2,0,none⟩)] m [] (Ret (.bool (ZCb r a))):=by
 apply ZfT (c0b:=b) (c0o:=0) (c1b:=b1) (c1o:=0) (c2b:=b2) (c2o:=0)
 refine⟨λi _ _=>match i with
  | 4=>Ret (.int .i64 a.e.most)
  | _=>Ret (.int .i64 (Zbv r)),_,hb 0 _ rfl,_,rfl,Zab (λh=>?_) (λh M hM _ _=>Zac hM ?_)⟩
 ·refine⟨_,_,_,_,_,Zb5 cM 3 5,_,rfl,Ztf a.e m ha.e,λv _ _ e=>by rw[show v=_ from e];rfl,λn m1 aB hn=>?_⟩
  obtain rfl:n=a.e.most:=by cases hn;rfl
  refine⟨_,_,_,_,_,_,_,_,_,_,_,_,_,_,_,_,eR,_,rfl,Zgr r m1 (hr.t.mono aB),λv _ _ e=>by rw[show v=_ from e];rfl,λn1 m2 aH hn M hM _ _=>Zac hM ?_⟩
  obtain rfl:n1=Zbv r:=by cases hn;rfl
  show Value.bool _=Value.bool (ZCb r a)
  unfold ZCb;rw[h];rfl
 ·show Value.bool _=Value.bool (ZCb r a)
  unfold ZCb;rw[h];rfl
theorem Zvf(s:Sc)(r:Ru)(a:Ac)(m:Mem)(hs:RepC m s)(hr:RepR m r)(ha:RepA m a):CX Tryz.prog 101 #[s.v,.agg r.cs.toArray,.agg a.cs.toArray] m [] (Ret (.int .i64 (ZaF s r a))):=by
 apply ZhX
 intro b m1 aB hb b1 m2 aH cM b2 m3 aS eR b3 b4 hf m4 bM eS
 have dI:=mLt aB (mLt aH aS)
 have mN:=mLt (Mem.le_add hf _) bM
 refine ZaC (Zgs [((307,135,[.pointer (some ⟨b2,0,none⟩),.pointer (some ⟨b3,0,none⟩)]),Zwt a),((308,138,[.pointer (some ⟨b,0,none⟩),.pointer (some ⟨b2,0,none⟩),.pointer (some ⟨b3,0,none⟩)]),Zz1 s a),
  ((309,141,[.pointer (some ⟨b3,0,none⟩),.pointer (some ⟨b2,0,none⟩),.pointer (some ⟨b1,0,none⟩)]),ZCb r a)] _ 3 _ (by simp) (.inr ⟨b4,0,rfl,(Zaq m3 b4 _).mono bM⟩) λx hx m' hm'=>?_) λm5 cV=>Zac (mLt dI (mLt mN cV)) rfl
 have hl:=mLt mN hm'
 have h0':=mLt dI hl
 simp only[List.mem_cons,List.not_mem_nil,or_false]at hx
 rcases hx with rfl|rfl|rfl
 ·exact Zr0 a m' b2 b3 (ha.mono h0') (eR.mono hl) (eS.mono hm')
 ·exact Zr1 s a m' b b2 b3 (hs.mono h0') (ha.mono h0') (hb.mono (mLt aH (mLt aS hl))) (eR.mono hl) (eS.mono hm')
 ·exact Zr2 r a m' b3 b2 b1 (hr.mono h0') (ha.mono h0') (eS.mono hm') (eR.mono hl) (cM.mono (mLt aS hl))
def Ztl(l:List Pt)(i:Nat)(p:Pt):Bool:=!ZaY p||(decide (i > 0)&&(p.k == 1&&(match l[i - 1]? with
 | some q=>q.k == 1
 | none=>false)))
theorem Zx4(l:List Pt)(a:Option Addr)(c:Nat)(i:Nat)(p:Pt)(m:Mem)(b b1 b2:Nat)(hl:l.length<=few)(aD:rowRd m a (l.map Pt.cs).flatten)(hi:i<=l.length)(hp:RepP m p)(hb:m.reads b 0 p.cs)(cM:m.reads b1 0 [.int .i64 i])(eR:m.reads b2 0 [.slice a l.length c]):
  CX Tryz.prog 143 #[.pointer (some ⟨b,0,none⟩),.pointer (some ⟨b1,0,none⟩),.pointer (some ⟨b2,0,none⟩)] m [] (Ret (.bool (Ztl l i p))):=by
 apply ZhY (c0b:=b) (c0o:=0) (c1b:=b1) (c1o:=0) (c2b:=b2) (c2o:=0)
 unfold few at hl
 refine⟨Ztl l i p,⟨_,_,_,_,_,_,_,_,hb,Zah (ZnI p m hp) λm1 aB=>Zab (λh=>Zaf ?_) (λh=>⟨_,(cM.mono aB) 0 _ rfl,Zaa rfl (Zav (λh2=>⟨_,(hb.mono aB) 0 _ rfl,Zaa rfl (Zab (λh3=>?_) (λh3=>Zaf ?_))⟩) (λh2=>Zaf ?_))⟩)⟩,Zac (Mem.le_refl m) rfl⟩
 ·unfold Ztl;rw[h];rfl
 ·have h2:(i:Int) > 0:=h2
  have h3:(p.k == 1)=true:=h3
  have aG:i - 1 < l.length:=by omega
  obtain⟨q,hq⟩:=ZcC aG
  have hw:IntKind.i64.wrap ((i:Int) - 1)=((i - 1:Nat):Int):=by rw[Zal (by omega) (by omega)];omega
  obtain⟨b3,o3,ha,hx⟩:=Zao Pt.len (aD.mono aB) hq (by omega)
  refine⟨_,(eR.mono aB) 0 _ rfl,_,(cM.mono aB) 0 _ rfl,Zaa rfl (Zaa rfl ⟨b3,o3,ha,?_,.int .u8 q.k,?_,Zaa rfl (Zaf ?_)⟩)⟩
  ·show Zag (IntKind.i64.wrap ((i:Int) - 1)) l.length
   rw[hw];exact⟨by omega,by omega⟩
  ·show m1.c b3 (o3+(IntKind.i64.wrap ((i:Int) - 1)).toNat*8+0)=_
   rw[hw,zA8]
   exact hx 0 _ rfl
  ·show(q.k == 1)=_
   unfold Ztl;rw[h,decide_eq_true (p:=i > 0) (by omega),h3,hq];rfl
 ·have h3:(p.k == 1)=false:=h3
  unfold Ztl;rw[h,h3];simp
 ·have h2:¬(i:Int) > 0:=h2
  unfold Ztl;rw[h,decide_eq_false (p:=i > 0) (by omega)];rfl
def ZqW(s:Sc)(p:Pt):Bool:=(p.k == 2&&!(Zba s p.s).2)||(p.k == 4&&!Za0 s p.e)
theorem Zx5(s:Sc)(p:Pt)(m:Mem)(b b1:Nat)(hs:RepC m s)(hp:RepP m p)(hb:m.reads b 0 s.cs)(cM:m.reads b1 0 p.cs):
  CX Tryz.prog 145 #[.pointer (some ⟨b,0,none⟩),.pointer (some ⟨b1,0,none⟩)] m [] (Ret (.bool (ZqW s p))):=by
 apply ZhZ (c0b:=b) (c0o:=0) (c1b:=b1) (c1o:=0)
 refine⟨_,_,_,hb,_,cM 1 _ rfl,Zaj (Zth s p.s m hs) (λv _ _ e=>by rw[show v=_ from e];rfl) ?_⟩
 intro x y m1 aB hv
 have hv:Value.tuple (Array.mk [Value.bool x,Value.bool y])=Value.tuple #[.bool (Zba s p.s).1,.bool (Zba s p.s).2]:=hv
 simp only[Value.tuple.injEq,Array.mk.injEq,List.cons.injEq,Value.bool.injEq,and_true]at hv
 obtain⟨rfl,rfl⟩:=hv
 refine⟨ZqW s p,⟨_,(cM.mono aB) 0 _ rfl,Zaa rfl (Zab (λh1=>Zab (λh2=>Zaf ?_) (λh2=>⟨_,(cM.mono aB) 0 _ rfl,Zaa rfl (Zab (λh3=>⟨_,_,_,hb.mono aB,_,_,_,_,_,Zb5 (cM.mono aB) 3 5,Zah (Zix s p.e m1 (hs.mono aB) (RepE.mono aB _ hp.e)) λm2 aH=>Zaf ?_⟩) (λh3=>Zaf ?_))⟩))
  (λh1=>⟨_,(cM.mono aB) 0 _ rfl,Zaa rfl (Zab (λh3=>⟨_,_,_,hb.mono aB,_,_,_,_,_,Zb5 (cM.mono aB) 3 5,Zah (Zix s p.e m1 (hs.mono aB) (RepE.mono aB _ hp.e)) λm2 aH=>Zaf ?_⟩) (λh3=>Zaf ?_))⟩))⟩,Zac aB rfl⟩
 ·have h1:(p.k == 2)=true:=h1
  unfold ZqW;rw[h1,h2];rfl
 ·have h1:(p.k == 2)=true:=h1
  have h3:(p.k == 4)=true:=h3
  unfold ZqW;rw[h1,h2,h3];rfl
 ·have h1:(p.k == 2)=true:=h1
  have h3:(p.k == 4)=false:=h3
  unfold ZqW;rw[h1,h2,h3];rfl
 ·have h1:(p.k == 2)=false:=h1
  have h3:(p.k == 4)=true:=h3
  unfold ZqW;rw[h1,h3];rfl
 ·have h1:(p.k == 2)=false:=h1
  have h3:(p.k == 4)=false:=h3
  unfold ZqW;rw[h1,h3];rfl
def ZnV(r:Ru)(p:Pt):Bool:=(p.k == 3&&decide (p.g > Zbv r))||(p.k == 4&&decide (p.e.most > Zbv r))
theorem Zx6(r:Ru)(p:Pt)(m:Mem)(b b1:Nat)(hr:RepR m r)(hp:RepP m p)(hb:m.reads b 0 p.cs)(cM:m.reads b1 0 r.cs):
  CX Tryz.prog 146 #[.pointer (some ⟨b,0,none⟩),.pointer (some ⟨b1,0,none⟩)] m [] (Ret (.bool (ZnV r p))):=by
 apply Zh0 (c0b:=b) (c0o:=0) (c1b:=b1) (c1o:=0)
 refine⟨λi _ _=>match i with
  | 17=>Ret (.int .i64 p.e.most)
  | _=>Ret (.int .i64 (Zbv r)),_,hb 0 _ rfl,Zaa rfl (Zab (λh3=>?_) (λh3=>?_))⟩
 ·have h3:(p.k == 3)=true:=h3
  have hk:p.k=3:=by simpa using h3
  refine⟨_,hb 2 _ rfl,_,_,_,_,_,_,_,_,_,_,_,_,_,_,_,_,cM,_,rfl,Zgr r m hr.t,λv _ _ e=>by rw[show v=_ from e];rfl,λn m1 aB hn=>?_⟩
  obtain rfl:n=Zbv r:=by cases hn;rfl
  refine Zaa rfl (Zav (λh=>λM hM _ _ _=>Zac hM ?_) (λh=>⟨_,(hb.mono aB) 0 _ rfl,Zaa rfl (Zfj (by show(p.k == 4)=false;rw[hk];rfl) λM hM _ _ _=>Zac hM ?_)⟩))
  ·have h:p.g > Zbv r:=h
   show Value.bool _=Value.bool (ZnV r p)
   unfold ZnV;rw[h3,decide_eq_true h];rfl
  ·have h:¬p.g > Zbv r:=h
   show Value.bool _=Value.bool (ZnV r p)
   unfold ZnV;rw[decide_eq_false h,hk];rfl
 ·have h3:(p.k == 3)=false:=h3
  refine⟨_,hb 0 _ rfl,Zaa rfl (Zab (λh4=>?_) (λh4 M hM _ _ _=>Zac hM ?_))⟩
  ·have h4:(p.k == 4)=true:=h4
   refine⟨_,_,_,_,_,Zb5 hb 3 5,_,rfl,Ztf p.e m hp.e,λv _ _ e=>by rw[show v=_ from e];rfl,λn m1 aB hn=>?_⟩
   obtain rfl:n=p.e.most:=by cases hn;rfl
   refine⟨_,_,_,_,_,_,_,_,_,_,_,_,_,_,_,_,cM,_,rfl,Zgr r m1 (hr.t.mono aB),λv _ _ e=>by rw[show v=_ from e];rfl,λn1 m2 aH hn M hM _ _ _=>Zac hM ?_⟩
   obtain rfl:n1=Zbv r:=by cases hn;rfl
   show Value.bool _=Value.bool (ZnV r p)
   unfold ZnV;rw[h3,h4];rfl
  ·have h4:(p.k == 4)=false:=h4
   show Value.bool _=Value.bool (ZnV r p)
   unfold ZnV;rw[h3,h4];rfl
theorem Ziq(s:Sc)(r:Ru)(l:List Pt)(i:Nat)(p:Pt):ZcJ s r l i p=ZaG [(307,Ztl l i p),(308,ZqW s p),(309,ZnV r p)]:=rfl
theorem Zz2(s:Sc)(r:Ru)(l:List Pt)(a:Option Addr)(c:Nat)(i:Nat)(p:Pt)(m:Mem)(hs:RepC m s)(hr:RepR m r)(hl:l.length<=few)(aD:rowRd m a (l.map Pt.cs).flatten)(cB:∀x∈l,RepP m x)(hi:l[i]?=some p):
  CX Tryz.prog 102 #[s.v,.agg r.cs.toArray,.slice a l.length c,.int .i64 i] m [] (Ret (.int .i64 (ZcJ s r l i p))):=by
 apply Zle
 intro b m1 aB hb b1 m2 aH cM b2 m3 aS eR b3 m4 bM eS
 have pA:=mLt aS bM
 have jU:=mLt aH pA
 have jK:=mLt aB jU
 have aG:=(zA0 hi).1
 have hl':=hl
 unfold few at hl'
 obtain⟨b4,o4,ha,hx⟩:=Zao Pt.len (aD.mono jK) hi (by omega)
 refine⟨b4,o4,ha,⟨by omega,by omega⟩,_,_,_,_,_,_,_,_,hx,λb5=>Zaa rfl λb6 hf m5 cV qJ=>?_⟩
 have vT:=mLt (Mem.le_add hf _) cV
 refine ZaC (Zgs [((307,143,[.pointer (some ⟨b5,0,none⟩),.pointer (some ⟨b3,0,none⟩),.pointer (some ⟨b2,0,none⟩)]),Ztl l i p),((308,145,[.pointer (some ⟨b,0,none⟩),.pointer (some ⟨b5,0,none⟩)]),ZqW s p),
  ((309,146,[.pointer (some ⟨b5,0,none⟩),.pointer (some ⟨b1,0,none⟩)]),ZnV r p)] _ 3 _ (by simp) (.inr ⟨b6,0,rfl,(Zaq m4 b6 _).mono cV⟩) λx hx m' hm'=>?_) λm6 iI=>Zac (mLt jK (mLt vT iI)) rfl
 have hl:=mLt vT hm'
 have h0':=mLt jK hl
 have hp:=(cB p (zA2 hi)).mono h0'
 simp only[List.mem_cons,List.not_mem_nil,or_false]at hx
 rcases hx with rfl|rfl|rfl
 ·exact Zx4 l a c i p m' b5 b3 b2 (by unfold few;omega) (aD.mono h0') (by omega) hp (qJ.mono hm') (eS.mono hl) (eR.mono (mLt bM hl))
 ·exact Zx5 s p m' b b5 (hs.mono h0') hp (hb.mono (mLt jU hl)) (qJ.mono hm')
 ·exact Zx6 r p m' b5 b1 (hr.mono h0') hp (qJ.mono hm') (cM.mono (mLt pA hl))
theorem Zok(r:Ru):0<=sizeR r/\sizeR r<=10001:=by
 have:=Zhp r.t
 unfold sizeR;split <;> omega
theorem Zz3{α:Type}(f:α->Int)(B:Int)(l:List α)(hf:∀x∈l,f x<=B):ZbC (l.map f)<=l.length*B:=by
 induction l with
 | nil=>simp[ZbC]
 | cons x l ih=>
  have h1:=hf x (by simp)
  have h2:=ih λy hy=>hf y (by simp[hy])
  simp only[List.map_cons,ZbC,List.length_cons]
  push_cast
  rw[Int.add_mul];omega
def Zvg(x:Sta):Int:=ZbC (x.rules.map sizeR)
def T0s(s:Sc)(i:Nat):Int:=ZbC ((s.states.take i).map Zvg)
theorem Zvh{s:Sc}{i:Nat}{x:Sta}(h:s.states[i]?=some x)(k:Nat):totals s i k=T0s s i+ZbC ((x.rules.take (k+1)).map sizeR):=by
 unfold totals;rw[h];rfl
theorem Zol{m:Mem}{x:Sta}(hx:RepS m x)(k:Nat):0<=ZbC ((x.rules.take k).map sizeR)/\ZbC ((x.rules.take k).map sizeR)<=1000100000:=by
 have hl:=hx.len
 unfold few at hl
 refine⟨ZeY _ (λr=>(Zok r).1) _,?_⟩
 have:=Zz3 sizeR 10001 (x.rules.take k) λr _=>(Zok r).2
 rw[List.length_take]at this
 omega
theorem ZCZ{m:Mem}{s:Sc}(hs:RepC m s)(i:Nat):0<=T0s s i/\T0s s i<=100010000000000:=by
 have hl:=hs.len
 unfold few at hl
 refine⟨ZeY _ (λx=>ZeY _ (λr=>(Zok r).1) _) _,?_⟩
 have:=Zz3 Zvg 1000100000 (s.states.take i) λx hx=>by
  have:=(Zol (hs.all x (List.mem_of_mem_take hx)) x.rules.length).2
  rw[List.take_length]at this;exact this
 rw[List.length_take]at this
 unfold T0s;omega
def ZyG(s:Sc)(i n:Nat):List Value:=(List.range n).map λj=>.int .i64 (totals s i j)
theorem Zx7(s:Sc)(i n:Nat):(ZyG s i n).length=n:=by simp[ZyG]
theorem Zvi(s:Sc)(i n:Nat):ZyG s i (n+1)=ZyG s i n++[.int .i64 (totals s i n)]:=by simp[ZyG,List.range_succ]
def TotI(s:Sc)(i:Nat)(a:Option Addr)(vs:List Value)(m:Mem):Prop:=vs.length=i/\rowRd m a vs/\∀(k:Nat)(x:Sta),k < i->s.states[k]?=some x->∃ak ck,vs[k]?=some (.slice ak x.rules.length ck)/\rowRd m ak (ZyG s k x.rules.length)
theorem TotI.mono{s:Sc}{i:Nat}{a:Option Addr}{vs:List Value}{m m':Mem}(h:TotI s i a vs m)(hm:m.le m'):TotI s i a vs m':=⟨h.1,h.2.1.mono hm,λk x hk hx=>by
 obtain⟨ak,ck,h1,h2⟩:=h.2.2 k x hk hx
 exact⟨ak,ck,h1,h2.mono hm⟩⟩
def ZDq(s:Sc):Value->Mem->List (List Value)->Prop:=λv m _=>∃a c vs,v=.slice a s.states.length c/\TotI s s.states.length a vs m
theorem Zx8{s}:∀(v:Value)(m':Mem) (css:List (List Value)),ZDq s v m' css->Shape.fits .slice v=true:=λv _ _ ⟨_,_,_,e,_⟩=>by rw[e];rfl
set_option maxHeartbeats 1000000 in
theorem Zvj(s:Sc)(m:Mem)(hr:RepC m s):CX Tryz.prog 72 #[s.v] m [] (ZDq s):=by
 apply Zh1
 intro b m1 aB _
 have fO:=hr.len
 unfold few at fO
 refine⟨λxs _ tks m' q=>∃(i:Nat)(a:Option Addr)(c:Nat)(vs:List Value),i<=s.states.length/\xs=[.int .i64 (T0s s i),.slice a i c,.int .i64 i]/\tks=[.slice a i c]/\m1.le m'/\TotI s i a vs m'/\q=s.states.length - i,
  ⟨s.states.length,0,none,0,[],by omega,rfl,rfl,Mem.le_refl _,⟨rfl,.inl rfl,λk x hk=>absurd hk (by omega)⟩,rfl⟩,?_⟩
 rintro n a n1 c n2 a1 n3 c1 m2 q aH ⟨i,A,C,vs,hi,hx,ht,bH,hT,hq⟩
 simp only[List.cons.injEq,Value.int.injEq,Value.slice.injEq,and_true,true_and]at hx ht
 obtain⟨rfl,⟨ea,en,ec⟩,rfl⟩:=hx
 obtain⟨ea',en',ec'⟩:=ht
 subst a1 n3 c1 a n1 c
 subst hq
 have eZ:=mLt aB aH
 have hw:∀k:Nat,k<=100000->IntKind.i64.wrap ((k:Int)+1)=((k+1:Nat):Int):=λk hk=>by rw[Zal (by omega) (by omega)];rfl
 refine Zav (λaG=>?_) (λbK=>?_)
 ·have aG:(i:Int) < (s.states.length:Int):=aG
  have aT:i < s.states.length:=by omega
  obtain⟨x,hx⟩:=ZcC aT
  have dH:=hr.all x (zA2 hx)
  have kY:=dH.len
  unfold few at kY
  obtain⟨b2,o2,ha,iw⟩:=Zao Sta.len (hr.row.mono eZ) hx (by omega)
  refine⟨b2,o2,ha,⟨by omega,by omega⟩,_,_,by rw[zA8];exact iw,λb3=>Zaa rfl (Zaa rfl ?_)⟩
  refine⟨λxs _ tks m' q=>∃(k:Nat)(ak:Option Addr)(ck:Nat),k<=x.rules.length/\xs=[.int .i64 (T0s s i+ZbC ((x.rules.take k).map sizeR)),.slice ak k ck,.int .i64 k]/\tks=[.slice ak k ck]/\rowRd m' ak (ZyG s i k)/\q=x.rules.length - k,
   ⟨x.rules.length,0,none,0,by omega,by simp[ZbC],rfl,.inl rfl,rfl⟩,?_⟩
  rintro n a4 n5 c2 n6 a5 n7 c3 m3 q aS ⟨k,ak,ck,hk,kx,vU,aD,hq⟩
  simp only[List.cons.injEq,Value.int.injEq,Value.slice.injEq,and_true,true_and]at kx vU
  obtain⟨rfl,⟨ea,en,ec⟩,rfl⟩:=kx
  obtain⟨ea',en',ec'⟩:=vU
  subst a5 n7 c3 a4 n5 c2
  subst hq
  have dI:=mLt eZ aS
  refine Zav (λdU=>?_) (λeI=>?_)
  ·have dU:(k:Int) < (x.rules.length:Int):=dU
   obtain⟨r,fP⟩:=ZcC (show k < x.rules.length by omega)
   have ia:=dH.all r (zA2 fP)
   obtain⟨b4,o4,kL,mM⟩:=Zao Ru.len (dH.row.mono dI) fP (by omega)
   have zC:=ZCZ hr i
   have gQ:=Zol dH k
   have yh:=Zol dH (k+1)
   have cR:=Zd6 sizeR fP
   have mH:=Zvh hx k
   have next:∀{M M2:Mem} {b5:Nat} {z:Int} {Q:Option Addr->Nat->Mem->Prop},m3.le M->M.free b5->z=totals s i k->(∀(a':Option Addr)(c':Nat)(m':Mem),M.le m'->rowRd m' a' (ZyG s i (k+1))->Q a' c' m')->
     (Tok.mk (.slice ak k ck) 1=Tok.mk (.slice ak k ck) 1\/Value.slice ak k ck=.slice none 0 0\/ck < k+1)/\∃xs ys:List Value,xs.length=k*1/\ys.length=1*1/\rowRd (M.add b5 [.int .i64 z]) ak xs/\rowRd (M.add b5 [.int .i64 z]) (some ⟨b5,0,none⟩) ys/\(∀u∈ys,u.oneCell'=true)/\
      (k+1)*8<=140737488355328/\k+1<=9223372036854775807/\∀(a':Option Addr)(c':Nat)(m':Mem),(M.add b5 [.int .i64 z]).le m'->rowRd m' a' (xs++ys)->Q a' c' m':=λ{M M2 b5 z Q} hM hf hz hQ=>
    ⟨.inl rfl,ZyG s i k,[.int .i64 z],by rw[Zx7];omega,rfl,aD.mono (mLt hM (Mem.le_add hf _)),.inr ⟨b5,0,rfl,Zaq M b5 _⟩,by simp[Value.oneCell'],by omega,by omega,λa' c' m' hm' hr'=>hQ a' c' m' (mLt (Mem.le_add hf _) hm') (by rw[Zvi,<-hz];exact hr')⟩
   refine Zaa rfl ⟨b4,o4,kL,⟨by omega,dU⟩,_,_,_,_,_,_,_,_,_,_,_,_,_,_,_,_,by rw[zA8];exact mM,λb5=>Zaa rfl (Zaa rfl (Zab (λjf=>?_) (λjf b6 hf=>?_)))⟩
   ·have jf:r.k=1:=eq_of_beq (show(r.k == 1)=true from jf)
    have hz:sizeR r=r.t.size:=by unfold sizeR;rw[if_pos jf]
    refine ZaC (Zs3 r.t m3 (ia.t.mono dI)) λm4 bM b6 hf=>?_
    have bI:=Zhp r.t
    rw[Zal (n:=_+r.t.size) (by omega) (by omega)]
    refine next (M2:=m4) bM hf (by rw[mH,cR,hz];omega) λa' c' m' hm' hr'=>⟨rfl,rfl,x.rules.length - (k+1),by omega,k+1,a',c',by omega,?_,rfl,hr',rfl⟩
    rw[hw k (by omega),cR,hz]
    simp only[Int.add_assoc]
   ·have jf:¬r.k=1:=λe=>by
     have:(r.k == 1)=false:=jf
     rw[e]at this;simp at this
    have hz:sizeR r=0:=by unfold sizeR;rw[if_neg jf]
    refine next (M2:=m3) (Mem.le_refl _) hf (by rw[mH,cR,hz];omega) λa' c' m' hm' hr'=>⟨rfl,rfl,x.rules.length - (k+1),by omega,k+1,a',c',by omega,?_,rfl,hr',rfl⟩
    rw[hw k (by omega),cR,hz,Int.add_zero]
  ·have eI:¬(k:Int) < (x.rules.length:Int):=eI
   obtain rfl:k=x.rules.length:=by omega
   intro b3 hf
   have vV:=hT.mono (mLt aS (Mem.le_add hf [.slice ak x.rules.length ck]))
   refine⟨.inl rfl,vs,[.slice ak x.rules.length ck],by rw[hT.1];omega,rfl,vV.2.1,.inr ⟨b3,0,rfl,Zaq m3 b3 _⟩,by simp[Value.oneCell'],by omega,by omega,λa' c' m' hm' hr'=>⟨rfl,s.states.length - (i+1),by omega,i+1,a',c',vs++[.slice ak x.rules.length ck],by omega,?_,rfl,mLt bH (mLt aS (mLt (Mem.le_add hf _) hm')),⟨by rw[zA1,hT.1];rfl,hr',λj y hj hy=>?_⟩,rfl⟩⟩
   ·rw[hw i (by omega),List.take_length]
    have:T0s s (i+1)=T0s s i+Zvg x:=Zd6 Zvg hx
    rw[this];rfl
   ·by_cases mS:j < i
    ·obtain⟨aj,cj,h1,h2⟩:=vV.2.2 j y mS hy
     exact⟨aj,cj,by rw[zA5 (by rw[hT.1];omega)];exact h1,h2.mono hm'⟩
    ·obtain rfl:j=i:=by omega
     obtain rfl:x=y:=by rw[hx]at hy;exact Option.some.inj hy
     exact⟨ak,ck,by rw[zA4 (by rw[hT.1];omega),hT.1];simp,aD.mono (mLt (Mem.le_add hf _) hm')⟩
 ·have bK:¬(i:Int) < (s.states.length:Int):=bK
  obtain rfl:i=s.states.length:=by omega
  exact⟨m2,eZ,Mem.le_refl _,A,C,vs,rfl,hT⟩
theorem ZCr{m:Mem}{a:Option Addr}{vs:List Value}(h:rowRd m a vs){k:Nat}{v:Value}(hk:vs[k]?=some v):∃b o,a=some ⟨b,o,none⟩/\m.c b (o+k*1)=some v:=by
 rcases h with h|⟨b,o,ha,h⟩
 ·rw[h]at hk;simp at hk
 ·exact⟨b,o,ha,by rw[Nat.mul_one];exact h k v hk⟩
theorem ZC0(s:Sc)(ta:Option Addr)(tc:Nat)(vs:List Value)(p:Pl)(m:Mem)(hr:RepC m s)(hT:TotI s s.states.length ta vs m)(hp:ZDc s p):
  CX Tryz.prog 74 #[s.v,.slice ta s.states.length tc,.agg p.cs.toArray] m [] (Ret (.int .i64 (atS s p))):=by
 obtain⟨pv,ps,pr,pa,pp⟩:=p
 dsimp only[ZDc]at hp
 dsimp only[Pl.cs]
 show CX Tryz.prog 74 #[s.v,.slice ta s.states.length tc,.agg #[.int .i64 pv,.int .i64 ps,.int .i64 pr,.int .i64 pa,.int .i64 pp]] m [] _
 apply Zqo
 intro b m1 aB _ b1 m2 aH _
 have hm:=mLt aB aH
 have fZ:=hr.vlen
 have fO:=hr.len
 unfold few at fZ fO
 rcases hp with⟨i,rfl,v,hv⟩|⟨hv,hp⟩
 ·refine Ztv (decide_eq_true (Int.natCast_nonneg i)) (ZaC (Zqy s i v m2 (hr.mono hm) hv) λm3 aS=>Zac (mLt hm aS) ?_)
  show Value.int _ _=Value.int _ _
  unfold atS;rw[if_pos (Int.natCast_nonneg i),zA8,hv]
 have hv:pv < 0:=hv
 refine Zfj (decide_eq_false (by omega)) ?_
 rcases hp with hs|⟨i,rfl,x,hx,hp⟩
 ·have hs:ps < 0:=hs
  refine Ztv (decide_eq_true hs) (ZaC (ZxZ s (hr.mono hm)) λm3 aS=>Zac (mLt hm aS) ?_)
  show Value.int _ _=Value.int _ _
  unfold atS;rw[if_neg (by show ¬pv ≥ 0;omega),if_pos hs]
 refine Zfj (decide_eq_false (by omega)) ?_
 have rV:=(zA0 hx).1
 have at0:∀q:Pl,q.v=pv->q.s=i->atS s q=if q.r < 0 then ZcS s i x else match x.rules[q.r.toNat]? with
   | none=>0
   | some r=>if q.a < 0 then Zcl s r (totals s i q.r.toNat)else match r.acts[q.a.toNat]? with
    | none=>0
    | some a=>if q.p < 0 then ZaF s r a else match a.parts[q.p.toNat]? with
     | none=>0
     | some z=>ZcJ s r a.parts q.p.toNat z:=λq h1 h2=>by
  unfold atS;rw[h1,h2,if_neg (by omega),if_neg (by omega),zA8,hx]
  rfl
 rcases hp with hs|⟨k,rfl,r,fP,hp⟩
 ·have hs:pr < 0:=hs
  refine Ztv (decide_eq_true hs) (ZaC (Zx0 s i x m2 (hr.mono hm) hx) λm3 aS=>Zac (mLt hm aS) ?_)
  show Value.int _ _=Value.int _ _
  rw[at0 _ rfl rfl,if_pos hs]
 refine Zfj (decide_eq_false (by omega)) ?_
 have md:=zA2 hx
 have dH:=(hr.all x md).mono hm
 have kY:=dH.len
 unfold few at kY
 have l5:=(zA0 fP).1
 have mK:=zA2 fP
 have ia:=dH.all r mK
 have oT:=ia.len
 unfold few at oT
 obtain⟨b2,o2,mO,iw⟩:=Zao Sta.len (hr.row.mono hm) hx (by omega)
 obtain⟨b3,o3,hO,kx⟩:=Zao Ru.len dH.row fP (by omega)
 have at1:∀q:Pl,q.v=pv->q.s=i->q.r=k->atS s q=if q.a < 0 then Zcl s r (totals s i k)else match r.acts[q.a.toNat]? with
    | none=>0
    | some a=>if q.p < 0 then ZaF s r a else match a.parts[q.p.toNat]? with
     | none=>0
     | some z=>ZcJ s r a.parts q.p.toNat z:=λq h1 h2 h3=>by
  rw[at0 q h1 h2,h3,if_neg (by omega),zA8,fP]
 refine⟨b2,o2,mO,⟨by omega,by omega⟩,_,iw 1 _ rfl,Zaa rfl ⟨b3,o3,hO,⟨by omega,by show(k:Int) < (x.rules.length:Int);omega⟩,_,_,_,_,_,_,_,_,_,_,_,_,_,_,_,_,kx,λb4=>Zaa rfl ?_⟩⟩
 rcases hp with hs|⟨j,rfl,a,kP,hp⟩
 ·have hs:pa < 0:=hs
  refine Ztv (decide_eq_true hs) ?_
  obtain⟨ak,ck,pU,qK⟩:=hT.2.2 i x rV hx
  obtain⟨b5,o5,mh,tS⟩:=ZCr (hT.2.1.mono hm) pU
  have dS:(ZyG s i x.rules.length)[k]?=some (.int .i64 (totals s i k)):=by
   unfold ZyG;rw[List.getElem?_map,List.getElem?_range l5];rfl
  obtain⟨b6,o6,js,qA⟩:=ZCr (qK.mono hm) dS
  refine⟨λ_ _ _=>Ret (.int .i64 (Zcl s r (totals s i k))),b5,o5,mh,⟨by omega,by omega⟩,_,tS,Zaa rfl ⟨b6,o6,js,⟨by omega,by show(k:Int) < (x.rules.length:Int);omega⟩,_,qA,_,rfl,Zz0 s r (totals s i k) m2 (hr.mono hm) ia,λv _ _ e=>by rw[show v=_ from e];rfl,λn m3 aS hn M hM _=>Zac (mLt hm hM) ?_⟩⟩
  obtain rfl:n=Zcl s r (totals s i k):=by cases hn;rfl
  show Value.int _ _=Value.int _ _
  rw[at1 _ rfl rfl rfl,if_pos hs]
 refine Zfj (decide_eq_false (by omega)) ?_
 have vW:=(zA0 kP).1
 have yi:=zA2 kP
 have kQ:=ia.all a yi
 obtain⟨b5,o5,mh,rT⟩:=Zao Ac.len ia.row kP (by omega)
 rcases hp with hs|⟨n,rfl,z,hz⟩
 ·have hs:pp < 0:=hs
  refine Ztv (decide_eq_true hs) ⟨λ_ _ _=>Ret (.int .i64 (ZaF s r a)),Zaa rfl ⟨b5,o5,mh,⟨by omega,by show(j:Int) < (r.acts.length:Int);omega⟩,_,_,_,_,_,_,_,_,rT,_,rfl,Zvf s r a m2 (hr.mono hm) ia kQ,λv _ _ e=>by rw[show v=_ from e];rfl,λn m3 aS hn M hM _=>Zac (mLt hm hM) ?_⟩⟩
  obtain rfl:n=ZaF s r a:=by cases hn;rfl
  show Value.int _ _=Value.int _ _
  have tW:¬(j:Int) < 0:=by omega
  have rP:r.acts[(j:Int).toNat]?=some a:=by rw[zA8];exact kP
  rw[at1 _ rfl rfl rfl]
  simp only[tW,rP,hs,if_true,if_false]
 ·refine Zfj (decide_eq_false (by omega)) ⟨λ_ _ _=>Ret (.int .i64 (ZcJ s r a.parts n z)),Zaa rfl ⟨b5,o5,mh,⟨by omega,by show(j:Int) < (r.acts.length:Int);omega⟩,_,rT 2 _ rfl,_,rfl,Zz2 s r a.parts a.pa a.pc n z m2 (hr.mono hm) ia kQ.n kQ.row kQ.all hz,λv _ _ e=>by rw[show v=_ from e];rfl,λn' m3 aS hn M hM _=>Zac (mLt hm hM) ?_⟩⟩
  obtain rfl:n'=ZcJ s r a.parts n z:=by cases hn;rfl
  show Value.int _ _=Value.int _ _
  have tW:¬(j:Int) < 0:=by omega
  have rP:r.acts[(j:Int).toNat]?=some a:=by rw[zA8];exact kP
  have vX:¬(n:Int) < 0:=by omega
  have ol:a.parts[(n:Int).toNat]?=some z:=by rw[zA8];exact hz
  rw[at1 _ rfl rfl rfl]
  simp only[tW,rP,vX,ol,if_false]
  rw[zA8]
theorem Zr3(L:List Pl):(L.map Pl.cs).flatten.length=L.length*5:=by
 induction L with
 | nil=>rfl
 | cons x l ih=>rw[List.map_cons,List.flatten_cons,zA1,ih,List.length_cons,Nat.succ_mul];show 5+_=_;omega
def PI(L:List Pl)(v t:Value)(m:Mem):Prop:=∃a c a1 n1 c1,v=.slice a L.length c/\t=.slice a1 n1 c1/\((a1=a/\n1=L.length/\c1=c)\/c < L.length+1)/\rowRd m a (L.map Pl.cs).flatten
theorem PI.mono{L:List Pl}{v t:Value}{m m':Mem}(h:PI L v t m)(hm:m.le m'):PI L v t m':=by
 obtain⟨a,c,a1,n1,c1,h1,h2,h3,h4⟩:=h
 exact⟨a,c,a1,n1,c1,h1,h2,h3,h4.mono hm⟩
theorem PI.app{L:List Pl}{a a1:Option Addr}{n c n1 c1:Nat}{m:Mem}{b:Nat}{Q:Option Addr->Nat->Mem->Prop}(z:Pl)(h:PI L (.slice a n c) (.slice a1 n1 c1) m)(hb:L.length<=30000)(hf:m.free b)
  (k:∀(a':Option Addr)(c':Nat)(m':Mem),m.le m'->PI (L++[z]) (.slice a' (n+1) c') (.slice a' (n+1) c') m'->Q a' c' m'):
  (Tok.mk (.slice a1 n1 c1) 5=Tok.mk (.slice a n c) 5\/Value.slice a n c=.slice none 0 0\/c < n+1)/\∃xs ys:List Value,xs.length=n*5/\ys.length=1*5/\rowRd (m.add b z.cs) a xs/\rowRd (m.add b z.cs) (some ⟨b,0,none⟩) ys/\(∀u∈ys,u.oneCell'=true)/\
   (n+1)*40<=140737488355328/\n+1<=9223372036854775807/\∀(a':Option Addr)(c':Nat)(m':Mem),(m.add b z.cs).le m'->rowRd m' a' (List.append xs ys)->Q a' c' m':=by
 obtain⟨a0,c0,a10,n10,c10,h1,h2,h3,h4⟩:=h
 simp only[Value.slice.injEq]at h1 h2
 obtain⟨rfl,rfl,rfl⟩:=h1
 obtain⟨rfl,rfl,rfl⟩:=h2
 have bH:m.le (m.add b z.cs):=Mem.le_add hf _
 refine⟨?_,(L.map Pl.cs).flatten,z.cs,Zr3 L,rfl,h4.mono bH,.inr ⟨b,0,rfl,Zaq m b _⟩,?_,by omega,by omega,λa' c' m' hm' hr'=>k a' c' m' (mLt bH hm') ⟨a',c',a',L.length+1,c',?_,rfl,.inl ⟨rfl,?_,rfl⟩,?_⟩⟩
 ·rcases h3 with⟨e1,e2,e3⟩|h3
  ·rw[e1,e2,e3];exact .inl rfl
  ·exact .inr (.inr h3)
 ·intro u hu
  simp only[Pl.cs,List.mem_cons,List.not_mem_nil,or_false]at hu
  rcases hu with rfl|rfl|rfl|rfl|rfl <;> rfl
 ·rw[zA1];rfl
 ·rw[zA1];rfl
 ·rw[List.map_append,List.flatten_append]
  have:(List.map Pl.cs [z]).flatten=z.cs:=by simp
  rw[this];exact hr'
def Zwu(s:Sc):Value->Mem->List (List Value)->Prop:=λv m _=>∃a c,v=.slice a s.places.length c/\rowRd m a (s.places.map Pl.cs).flatten
theorem Zqz{s}:∀(v:Value)(m':Mem) (css:List (List Value)),Zwu s v m' css->Shape.fits .slice v=true:=λv _ _ ⟨_,_,e,_⟩=>by rw[e];rfl
set_option maxHeartbeats 4000000 in
theorem Zvk(s:Sc)(m:Mem)(hr:RepC m s):CX Tryz.prog 73 #[s.v] m [] (Zwu s):=by
 apply Zk6
 intro b m1 aB _
 have fZ:=hr.vlen
 have fO:=hr.len
 unfold few at fZ fO
 refine Zah (ZdT s m1 (hr.mono aB)) λm2 aH=>Zab (λhl=>?_) (λhl b2 jV=>?_)
 ·have hl:s.light=false:=by simpa using hl
  have he:s.places=[]:=by unfold Sc.places;rw[hl];rfl
  exact Zac (mLt aB aH) ⟨none,0,by rw[he];rfl,by rw[he];exact .inl rfl⟩
 have hl:s.light=true:=by simpa using hl
 have kJ:m2.le (m2.add b2 (Pl.cs top)):=Mem.le_add jV _
 have eZ:=mLt aB (mLt aH kJ)
 have mE:=Zio s
 have rF:=Zey hl
 rw[rF,List.length_cons,zA1,show(Zdr s.vars.length Vf).length=s.vars.length from Zgi _ _]at mE
 have hw:∀k:Nat,k<=100000->IntKind.i64.wrap ((k:Int)+1)=((k+1:Nat):Int):=λk hk=>by rw[Zal (by omega) (by omega)];rfl
 have start:PI [top] (.slice (some ⟨b2,0,none⟩) 1 1) (.slice none 0 0) (m2.add b2 (Pl.cs top)):=⟨_,1,_,_,_,rfl,rfl,.inr (by decide),.inr ⟨b2,0,rfl,by simpa using Zaq m2 b2 (Pl.cs top)⟩⟩
 refine⟨λxs _ tks m' q=>∃(i:Nat)(v t:Value),i<=s.vars.length/\xs=[v,.int .i64 i]/\tks=[t]/\PI (top::Zdr i Vf) v t m'/\q=s.vars.length - i,⟨s.vars.length,0,_,_,by omega,rfl,rfl,start,rfl⟩,?_⟩
 rintro a n c i' a1 n2 c1 m3 q aS ⟨i,v,t,hi,hx,ht,hP,rfl⟩
 simp only[List.cons.injEq,Value.int.injEq,and_true,true_and]at hx ht
 obtain⟨rfl,rfl⟩:=hx
 subst ht
 have dI:=mLt eZ aS
 have vY:(Zdr i Vf).length=i:=Zgi _ _
 refine Zav (λaG b3 gZ=>?_) (λbK=>?_)
 ·have aG:(i:Int) < (s.vars.length:Int):=aG
  refine PI.app ⟨i,-1,-1,-1,-1⟩ hP (by rw[List.length_cons,vY];omega) gZ λa' c' m' hm' hP'=>⟨rfl,s.vars.length - (i+1),by omega,i+1,_,_,by omega,by rw[hw i (by omega)],rfl,?_,rfl⟩
  rw[Zbw];exact hP'
 have bK:¬(i:Int) < (s.vars.length:Int):=bK
 obtain rfl:i=s.vars.length:=by omega
 generalize hB:top::Zdr s.vars.length Vf=B at hP
 have zD:B.length=s.vars.length+1:=by rw[<-hB,List.length_cons,vY]
 refine⟨λxs _ tks m' q=>∃(i:Nat)(v t:Value),i<=s.states.length/\xs=[v,.int .i64 i]/\tks=[t]/\PI (B++Zdr i (Ff s)) v t m'/\q=s.states.length - i,⟨s.states.length,0,_,_,by omega,rfl,rfl,by simpa[Zdr]using hP,rfl⟩,?_⟩
 rintro a n c i' a1 n2 c1 m4 q bM ⟨i,v,t,hi,hx,ht,hP,rfl⟩
 simp only[List.cons.injEq,Value.int.injEq,and_true,true_and]at hx ht
 obtain⟨rfl,rfl⟩:=hx
 subst ht
 have jK:=mLt dI bM
 refine Zav (λaG=>?_) (λbK=>?_)
 ·have aG:(i:Int) < (s.states.length:Int):=aG
  obtain⟨x,hx⟩:=ZcC (show i < s.states.length by omega)
  have dH:=hr.all x (zA2 hx)
  have kY:=dH.len
  unfold few at kY
  have hF:Ff s i=plS i x:=by unfold Ff;rw[hx]
  have cM:(Zdr i (Ff s)).length+(plS i x).length<=(Zdr s.states.length (Ff s)).length:=by
   have:=ZsF (show i+1<=s.states.length by omega) (Ff s)
   rw[Zbw,zA1,hF]at this;exact this
  rw[Zkt,List.length_cons]at cM
  obtain⟨b3,o3,hO,kx⟩:=Zao Sta.len (hr.row.mono jK) hx (by omega)
  refine⟨b3,o3,hO,⟨by omega,aG⟩,_,_,kx,λb4=>Zaa rfl λb5 j1=>?_⟩
  refine PI.app ⟨-1,i,-1,-1,-1⟩ hP (by rw[zA1];omega) j1 λa' c' m5 cV hP=>Zaa rfl ?_
  have qF:=mLt jK cV
  generalize qL:B++Zdr i (Ff s)=L1 at hP
  have jH:L1.length=B.length+(Zdr i (Ff s)).length:=by rw[<-qL,zA1]
  refine⟨λxs _ tks m' q=>∃(k:Nat)(v t:Value),k<=x.rules.length/\xs=[v,.int .i64 k]/\tks=[t]/\PI (L1++(⟨-1,i,-1,-1,-1⟩::Zdr k (Gf i x))) v t m'/\q=x.rules.length - k,⟨x.rules.length,0,_,_,by omega,rfl,rfl,by simpa[Zdr]using hP,rfl⟩,?_⟩
  rintro a n c k' a1 n2 c1 m6 q iI ⟨k,v,t,hk,hy,ht,hP,rfl⟩
  simp only[List.cons.injEq,Value.int.injEq,and_true,true_and]at hy ht
  obtain⟨rfl,rfl⟩:=hy
  subst ht
  have lb:=mLt qF iI
  refine Zav (λdU=>?_) (λeI=>?_)
  ·have dU:(k:Int) < (x.rules.length:Int):=dU
   obtain⟨r,fP⟩:=ZcC (show k < x.rules.length by omega)
   have ia:=dH.all r (zA2 fP)
   have oT:=ia.len
   unfold few at oT
   have hG:Gf i x k=plR i k r:=by unfold Gf;rw[fP]
   have eR:(Zdr k (Gf i x)).length+(plR i k r).length<=(Zdr x.rules.length (Gf i x)).length:=by
    have:=ZsF (show k+1<=x.rules.length by omega) (Gf i x)
    rw[Zbw,zA1,hG]at this;exact this
   rw[Zks,List.length_cons]at eR
   obtain⟨b6,o6,js,oR⟩:=Zao Ru.len (dH.row.mono lb) fP (by omega)
   refine Zaa rfl ⟨b6,o6,js,⟨by omega,dU⟩,_,_,_,_,_,_,_,_,_,_,_,_,_,_,_,_,oR,λb7=>Zaa rfl λb8 yj=>?_⟩
   refine PI.app ⟨-1,i,k,-1,-1⟩ hP (by rw[zA1,List.length_cons];omega) yj λa' c' m7 ju hP=>Zaa rfl ?_
   have ym:=mLt lb ju
   generalize vZ:L1++(⟨-1,i,-1,-1,-1⟩::Zdr k (Gf i x))=L2 at hP
   have oH:L2.length=L1.length+1+(Zdr k (Gf i x)).length:=by rw[<-vZ,zA1,List.length_cons];omega
   refine⟨λxs _ tks m' q=>∃(j:Nat)(v t:Value),j<=r.acts.length/\xs=[v,.int .i64 j]/\tks=[t]/\PI (L2++(⟨-1,i,k,-1,-1⟩::Zdr j (Hf i k r))) v t m'/\q=r.acts.length - j,⟨r.acts.length,0,_,_,by omega,rfl,rfl,by simpa[Zdr]using hP,rfl⟩,?_⟩
   rintro a n c j' a1 n2 c1 m8 q iO ⟨j,v,t,hj,hy,ht,hP,rfl⟩
   simp only[List.cons.injEq,Value.int.injEq,and_true,true_and]at hy ht
   obtain⟨rfl,rfl⟩:=hy
   subst ht
   have rU:=mLt ym iO
   refine Zav (λgP=>?_) (λjA=>?_)
   ·have gP:(j:Int) < (r.acts.length:Int):=gP
    obtain⟨y,kP⟩:=ZcC (show j < r.acts.length by omega)
    have kQ:=ia.all y (zA2 kP)
    have tX:=kQ.n
    unfold few at tX
    have hH:Hf i k r j=plA i k j y:=by unfold Hf;rw[kP]
    have eS:(Zdr j (Hf i k r)).length+(plA i k j y).length<=(Zdr r.acts.length (Hf i k r)).length:=by
     have:=ZsF (show j+1<=r.acts.length by omega) (Hf i k r)
     rw[Zbw,zA1,hH]at this;exact this
    rw[Zkr,List.length_cons,show(Zdr y.parts.length (Pf i k j)).length=y.parts.length from Zgi _ _]at eS
    obtain⟨b9,o9,yn,yo⟩:=Zao Ac.len (ia.row.mono rU) kP (by omega)
    refine Zaa rfl ⟨b9,o9,yn,⟨by omega,gP⟩,_,_,_,_,_,_,_,_,yo,λb10=>Zaa rfl λb11 tY=>?_⟩
    refine PI.app ⟨-1,i,k,j,-1⟩ hP (by rw[zA1,List.length_cons];omega) tY λa' c' m9 ky hP=>Zaa rfl ?_
    generalize rO:L2++(⟨-1,i,k,-1,-1⟩::Zdr j (Hf i k r))=L3 at hP
    have sU:L3.length=L2.length+1+(Zdr j (Hf i k r)).length:=by rw[<-rO,zA1,List.length_cons];omega
    refine⟨λxs _ tks m' q=>∃(w:Nat)(v t:Value),w<=y.parts.length/\xs=[v,.int .i64 w]/\tks=[t]/\PI (L3++(⟨-1,i,k,j,-1⟩::Zdr w (Pf i k j))) v t m'/\q=y.parts.length - w,⟨y.parts.length,0,_,_,by omega,rfl,rfl,by simpa[Zdr]using hP,rfl⟩,?_⟩
    rintro a n c w' a1 n2 c1 m10 q kR ⟨w,v,t,zE,hy,ht,hP,rfl⟩
    simp only[List.cons.injEq,Value.int.injEq,and_true,true_and]at hy ht
    obtain⟨rfl,rfl⟩:=hy
    subst ht
    have yp:(Zdr w (Pf i k j)).length=w:=Zgi _ _
    refine Zav (λjB b12 tZ=>?_) (λj6=>?_)
    ·have jB:(w:Int) < (y.parts.length:Int):=jB
     refine PI.app ⟨-1,i,k,j,w⟩ hP (by rw[zA1,List.length_cons,yp];omega) tZ λa' c' m' hm' hP'=>⟨rfl,rfl,y.parts.length - (w+1),by omega,w+1,_,_,by omega,by rw[hw w (by omega)],rfl,?_,rfl⟩
     rw[Zbw]
     simpa[Pf]using hP'
    ·have j6:¬(w:Int) < (y.parts.length:Int):=j6
     obtain rfl:w=y.parts.length:=by omega
     refine⟨rfl,rfl,r.acts.length - (j+1),by omega,j+1,_,_,by omega,by rw[hw j (by omega)],rfl,?_,rfl⟩
     rw[Zbw,hH,Zkr]
     rw[<-rO]at hP
     simpa using hP
   ·have jA:¬(j:Int) < (r.acts.length:Int):=jA
    obtain rfl:j=r.acts.length:=by omega
    refine⟨rfl,rfl,x.rules.length - (k+1),by omega,k+1,_,_,by omega,by rw[hw k (by omega)],rfl,?_,rfl⟩
    rw[Zbw,hG,Zks]
    rw[<-vZ]at hP
    simpa using hP
  ·have eI:¬(k:Int) < (x.rules.length:Int):=eI
   obtain rfl:k=x.rules.length:=by omega
   refine⟨rfl,rfl,s.states.length - (i+1),by omega,i+1,_,_,by omega,by rw[hw i (by omega)],rfl,?_,rfl⟩
   rw[Zbw,hF,Zkt]
   rw[<-qL]at hP
   simpa using hP
 ·have bK:¬(i:Int) < (s.states.length:Int):=bK
  obtain rfl:i=s.states.length:=by omega
  obtain⟨a0,c0,a10,n10,c10,h1,h2,h3,h4⟩:=hP
  have he:B++Zdr s.states.length (Ff s)=s.places:=by rw[rF,<-hB];rfl
  rw[he]at h1 h4
  rw[h1]
  exact⟨m4,jK,Mem.le_refl _,a0,c0,rfl,h4⟩
def ZqA(s:Sc)(l:List Pl):List (Pl×Int):=l.filterMap λp=>if atS s p=0 then none else some (p,atS s p)
theorem Zgt(s:Sc):s.problems=ZqA s s.places:=rfl
def ZiF(z:Pl×Int):Value:=.agg #[.int .i64 z.1.v,.int .i64 z.1.s,.int .i64 z.1.r,.int .i64 z.1.a,.int .i64 z.1.p,.int .i64 z.2]
theorem ZjS(s:Sc)(m:Mem):CX Tryz.prog 44 #[s.v] m [] (λv m' _=>∃b,v=.func (.func 71) #[] #[.pointer (some ⟨b,0,none⟩)]/\m'.reads b 0 s.cs):=by
 apply ZfU
 intro b m' hm hb
 exact⟨m',hm,Mem.le_refl _,b,rfl,hb⟩
theorem Zh5(s:Sc)(m:Mem)(c0b:Nat)(hr:RepC m s)(hb:m.reads c0b 0 s.cs):IX Tryz.prog 71 [] [.pointer (some ⟨c0b,0,none⟩)] m (s.problems.map λz=>[ZiF z]):=by
 apply ZeH 0 [] [] c0b 0
 intro l
 refine⟨_,_,_,hb,Zaj (Zvj s m hr) Zx8 ?_⟩
 rintro a n c m1 aB ⟨a',c',vs,hv,hT⟩
 simp only[Value.slice.injEq]at hv
 obtain⟨rfl,rfl,rfl⟩:=hv
 refine⟨_,_,_,hb.mono aB,Zaj (Zvk s m1 (hr.mono aB)) Zqz ?_⟩
 rintro a3 n1 c1 m2 aH ⟨a',c',hv,aD⟩
 simp only[Value.slice.injEq]at hv
 obtain⟨rfl,rfl,rfl⟩:=hv
 have mE:=Zio s
 have eZ:=mLt aB aH
 refine⟨λxs _ _ m' q=>∃i:Nat,i<=s.places.length/\xs=[.int .i64 ((ZqA s (s.places.take i)).length:Nat),.int .i64 i]/\q=s.places.length - i,⟨s.places.length,0,by omega,rfl,rfl⟩,?_⟩
 rintro y n2 m3 q aS ⟨i,hi,hx,rfl⟩
 simp only[List.cons.injEq,Value.int.injEq,and_true,true_and]at hx
 obtain⟨rfl,rfl⟩:=hx
 have dI:=mLt eZ aS
 have hw:i<=20001->IntKind.i64.wrap ((i:Int)+1)=((i+1:Nat):Int):=λhi=>by rw[Zal (by omega) (by omega)];rfl
 have hw:=hw (by omega)
 refine Zav (λaG=>?_) (λbK=>?_)
 ·have aG:(i:Int) < (s.places.length:Int):=aG
  obtain⟨p,hp⟩:=ZcC (show i < s.places.length by omega)
  have eX:ZqA s (s.places.take (i+1))=ZqA s (s.places.take i)++(if atS s p=0 then[]else[(p,atS s p)]):=by
   unfold ZqA
   rw[List.take_add_one,hp,List.filterMap_append]
   congr 1
   by_cases h:atS s p=0
   ·simp[h]
   ·simp[h]
  obtain⟨b1,o1,ha,dP⟩:=Zao (cs:=Pl.cs) (n:=5) (λ_=>rfl) (aD.mono aS) hp (by omega)
  refine⟨b1,o1,ha,⟨by omega,aG⟩,_,_,_,_,_,dP,λb2=>Zaa rfl ⟨_,_,_,hb.mono dI,?_⟩⟩
  refine ZaC (ZC0 s a c vs p m3 (hr.mono dI) (hT.mono (mLt aH aS)) (ZfF s p (zA2 hp))) λm4 bM=>Zab (λh=>?_) (λh=>?_)
  ·have h:¬atS s p=0:=by
    intro e;rw[e]at h;simp at h
   rw[if_neg h]at eX
   refine⟨⟨rfl,Int.natCast_nonneg _,?_⟩,⟨s.places.length - (i+1),by omega,i+1,by omega,?_,rfl⟩,.inr rfl⟩
   ·rw[zA8]
    show(List.map (λz=>[ZiF z]) s.problems)[(ZqA s (s.places.take i)).length]?=some [ZiF (p,atS s p)]
    rw[List.getElem?_map]
    have:s.problems[(ZqA s (s.places.take i)).length]?=some (p,atS s p):=by
     have e:s.problems=ZqA s (s.places.take (i+1))++ZqA s (s.places.drop (i+1)):=by
      rw[Zgt];unfold ZqA;rw[<-List.filterMap_append,List.take_append_drop]
     rw[e,eX,List.append_assoc,zA4 (Nat.le_refl _)]
     simp
    rw[this];rfl
   ·rw[hw,eX,zA1];rfl
  ·have h:atS s p=0:=by simpa using h
   rw[if_pos h,List.append_nil]at eX
   exact⟨s.places.length - (i+1),by omega,i+1,by omega,by rw[hw,eX],rfl⟩
 ·have bK:¬(i:Int) < (s.places.length:Int):=bK
  obtain rfl:i=s.places.length:=by omega
  left
  rw[List.take_length,<-Zgt,List.length_map]
def ZqB(z:Pl×Int):Value:=.tuple #[.agg z.1.cs.toArray,.int .i64 z.2]
theorem ZqC(s:Sc)(m:Mem)(hr:RepC m s):CX Tryz.prog 20 #[s.v] m [] (Ret (ZqB s.check)):=by
 apply Zjk
 intro b m1 aB _ b1 b2 b3
 refine Zah (ZdT s m1 (hr.mono aB)) λm2 aH=>Zab (λhl=>Zac (mLt aB aH) ?_) (λhl=>?_)
 ·have hl:s.light=false:=by simpa using hl
  show _=ZqB s.check
  unfold Sc.check;rw[hl];rfl
 have hl:s.light=true:=by simpa using hl
 refine Zaj (ZjS s m2) (λv m' css h=>by obtain⟨_,rfl,_⟩:=h;rfl) ?_
 rintro g fi ca m3 aS ⟨b4,hv,nu⟩
 obtain⟨rfl,rfl,rfl⟩:=Zcr hv
 have bH:=mLt aB (mLt aH aS)
 refine⟨_,Zh5 s m3 b4 (hr.mono bH) nu,λy hy=>?_,λ_ _ _ m' q=>q=0,rfl,?_,?_⟩
 ·obtain⟨z,_,rfl⟩:=List.mem_map.1 hy;rfl
 ·rintro n n1 n2 n3 n4 n5 cs cs1 m4 q bM hq rfl b5
  have hq:(List.map (λz=>[ZiF z]) s.problems)[0]?=some [Value.agg #[.int .i64 n,.int .i64 n1,.int .i64 n2,.int .i64 n3,.int .i64 n4,.int .i64 n5]]:=hq
  rw[List.getElem?_map]at hq
  obtain⟨z,hz,iV⟩:=Option.map_eq_some_iff.1 hq
  refine⟨rfl,Zac (mLt bH bM) ?_⟩
  have hz':s.check=z:=by
   unfold Sc.check;rw[hl,if_pos rfl]
   cases hs:s.problems with
   | nil=>rw[hs]at hz;simp at hz
   | cons x l=>rw[hs]at hz;simpa using hz
  show _=ZqB s.check
  rw[hz']
  simp only[ZiF,List.cons.injEq,Value.agg.injEq,Array.mk.injEq,Value.int.injEq,true_and,and_true]at iV
  obtain⟨rfl,rfl,rfl,rfl,rfl,rfl⟩:=iV
  rfl
 ·rintro cs cs1 m4 bM hq
  refine Zac (mLt bH bM) ?_
  have hs:s.problems=[]:=by
   have hq:(List.map (λz=>[ZiF z]) s.problems).length=0:=hq
   rw[List.length_map]at hq
   exact List.eq_nil_of_length_eq_zero hq
  show _=ZqB s.check
  unfold Sc.check;rw[hl,if_pos rfl,hs];rfl
theorem Zvl(s:Sc)(m:Mem)(hr:RepC m s):CX Tryz.prog 22 #[s.v] m [] (Ret (.bool (s.check.2 == 0))):=by
 apply Zjl
 intro b m1 aB _
 refine Zaj (ZqC s m1 (hr.mono aB)) (λv _ _ e=>by rw[show v=_ from e];rfl) ?_
 intro n n1 n2 n3 n4 n5 m2 aH hv
 have hv:Value.tuple #[.agg #[.int .i64 n,.int .i64 n1,.int .i64 n2,.int .i64 n3,.int .i64 n4],.int .i64 n5]=ZqB s.check:=hv
 simp only[ZqB,Value.tuple.injEq,Array.mk.injEq,List.cons.injEq,Value.int.injEq,true_and,and_true]at hv
 intro b2
 refine Zac (mLt aB aH) ?_
 show Value.bool _=Value.bool _
 rw[hv.2]
def ZqD:List ByteArray:=[⟨#[98,117,102,102,101,114]⟩,⟨#[118,97,114,105,97,98,108,101]⟩,⟨#[115,116,97,116,101,115]⟩,⟨#[115,116,97,116,101]⟩,⟨#[114,117,108,101]⟩,⟨#[114,101,103,101,120]⟩,⟨#[101,110,100]⟩,⟨#[97,99,116,105,111,110]⟩,⟨#[110,97,109,101]⟩,⟨#[99,97,112,116,117,114,101]⟩]
def Zwv(e:Int):ByteArray:=if e=5 then⟨#[108,111,110,103]⟩ else if e ≥ 300/\e<=309 then ZqD.getD (e - 300).toNat ⟨#[]⟩ else⟨#[]⟩
theorem Zz4(e:Int)(m:Mem):CX Tryz.prog 31 #[.int .i64 e] m [] (Ret (.string (Zwv e))):=by
 apply Zlh
 intro b hf
 have bH:=Mem.le_add hf (ZqD.map Value.string)
 refine Zab (λh=>Zac bH ?_) (λh=>?_)
 ·have h:e=5:=by simpa using h
  show Value.string _=Value.string _
  unfold Zwv;rw[if_pos h]
 have h:¬e=5:=by simpa using h
 by_cases h1:e ≥ 300
 ·by_cases h2:e<=309
  ·refine⟨true,Ztv (decide_eq_true h1) ⟨by trivial,Zaf (decide_eq_true h2)⟩,Ztv rfl ?_⟩
   have hw:IntKind.i64.wrap (e - 300)=e - 300:=Zal (by omega) (by omega)
   rw[hw]
   obtain⟨w,hw'⟩:=ZcC (show(e - 300).toNat < ZqD.length by show(e - 300).toNat < 10;omega)
   refine⟨⟨by omega,by omega⟩,Zan (v:=.string w) ?_ (Zac bH ?_)⟩
   ·show(ZqD.map Value.string)[(e - 300).toNat*1]?=_
    rw[Nat.mul_one,List.getElem?_map,hw'];rfl
   ·show Value.string _=Value.string _
    unfold Zwv;rw[if_neg h,if_pos ⟨h1,h2⟩,List.getD_eq_getElem?_getD,hw'];rfl
  ·refine⟨false,Ztv (decide_eq_true h1) ⟨by trivial,Zaf (decide_eq_false h2)⟩,Zfj rfl (Zac bH ?_)⟩
   show Value.string _=Value.string _
   unfold Zwv;rw[if_neg h,if_neg (by omega)]
 ·refine⟨false,Zfj (decide_eq_false h1) ⟨by trivial,rfl⟩,Zfj rfl (Zac bH ?_)⟩
  show Value.string _=Value.string _
  unfold Zwv;rw[if_neg h,if_neg (by omega)]
theorem Zx9(m:Mem):Rep m ZyA:=by simp only[ZyA,Rep];exact⟨by simp,.inl trivial,by constructor <;> decide⟩
theorem Zya(m:Mem):Rep m ZAq:=by simp only[ZAq,Rep];exact⟨by simp,.inl trivial,by constructor <;> decide⟩
theorem Zz5(m:Mem):CX Tryz.prog 57 #[.int .u8 120] m [] (Ret ZyA.v):=by
 apply Zfk
 intro b b1
 exact⟨by decide,by decide,by decide,⟨by decide,by decide⟩,Zaa (by kernel_rfl) (Zaa (by kernel_rfl) (Zac (Mem.le_refl m) (by show _=ZyA.v;kernel_rfl)))⟩
theorem Zz6(m:Mem):CX Tryz.prog 57 #[.int .u8 121] m [] (Ret ZAq.v):=by
 apply Zfk
 intro b b1
 exact⟨by decide,by decide,by decide,⟨by decide,by decide⟩,Zaa (by kernel_rfl) (Zaa (by kernel_rfl) (Zac (Mem.le_refl m) (by show _=ZAq.v;kernel_rfl)))⟩
def Zr4:Value->Mem->List (List Value)->Prop:=λv m' _=>∃a1 a2,v=ZCR false false (rxT a1 a2)/\Rep m' (rxT a1 a2)
theorem Zmu:∀(v:Value)(m':Mem) (css:List (List Value)),Zr4 v m' css->Shape.fits (.agg [.bool,.bool,.int .u8,.int .u64,.int .u64,.int .u64,.int .u64,.int .i64,.int .i64,.slice]) v=true:=λv _ _ ⟨_,_,e,_⟩=>by rw[e];rfl
theorem Ztm(m:Mem):CX Tryz.prog 29 #[] m [] Zr4:=by
 apply Zjn
 intro b
 refine Zaj (Zz5 m) (λv _ _ e=>by rw[show v=_ from e];rfl) ?_
 intro n n1 n2 n3 n4 n5 n6 a n7 c m1 aB hv
 simp only[Ret,ZyA,T.v,T.k,T.s0,T.s1,T.s2,T.s3,T.mn,T.mx,T.a,T.c,T.subs,Value.agg.injEq,Array.mk.injEq,List.cons.injEq,Value.int.injEq,Value.slice.injEq,true_and,and_true,List.length_nil]at hv
 obtain⟨rfl,rfl,rfl,rfl,rfl,rfl,rfl,rfl,rfl,rfl⟩:=hv
 intro b1 pD
 have jH:m1.le (m1.add b1 ZyA.cs):=Mem.le_add pD _
 refine Zaj (Zz6 _) (λv _ _ e=>by rw[show v=_ from e];rfl) ?_
 intro n n1 n2 n3 n4 n5 n6 a n7 c m2 aH hv
 simp only[Ret,ZAq,T.v,T.k,T.s0,T.s1,T.s2,T.s3,T.mn,T.mx,T.a,T.c,T.subs,Value.agg.injEq,Array.mk.injEq,List.cons.injEq,Value.int.injEq,Value.slice.injEq,true_and,and_true,List.length_nil]at hv
 obtain⟨rfl,rfl,rfl,rfl,rfl,rfl,rfl,rfl,rfl,rfl⟩:=hv
 intro b2 jV
 have hg:Rep m2 (ZbW 6 0 0 (some ⟨b1,0,none⟩) 1 [ZyA]):=ZdD (Zn3 ((Zaq m1 b1 ZyA.cs).mono aH) (Zx9 m2)) (by omega) (by omega) (by omega)
 have oH:=Mem.le_add jV ((ZbW 6 0 0 (some ⟨b1,0,none⟩) 1 [ZyA]).cs++ZAq.cs)
 refine⟨_,mLt aB (mLt jH (mLt aH oH)),Mem.le_refl _,some ⟨b1,0,none⟩,some ⟨b2,0,none⟩,rfl,?_⟩
 have hR:=Zaq m2 b2 ((ZbW 6 0 0 (some ⟨b1,0,none⟩) 1 [ZyA]).cs++ZAq.cs)
 refine ZdD (k:=3) (l:=[ZbW 6 0 0 (some ⟨b1,0,none⟩) 1 [ZyA],ZAq]) ⟨by simp,.inr ⟨b2,0,rfl,?_⟩⟩ (by omega) (by omega) (by omega)
 simp only[RepAt]
 exact⟨Zb5 hR 0 8,hg.mono oH,Zb5 hR 8 8,Zya _,trivial⟩
def ZAt(P:Ru->Prop):Value->Mem->List (List Value)->Prop:=λv m' _=>∃va sa ra r,P r/\v=(Zht va sa ra r).v/\RepC m' (Zht va sa ra r)
theorem Zd9{P}:∀(v:Value)(m':Mem) (css:List (List Value)),ZAt P v m' css->Shape.fits (.agg [.int .i64,.slice,.slice]) v=true:=λv _ _ ⟨_,_,_,_,_,e,_⟩=>by rw[e];rfl
theorem Zlp{P:Ru->Prop}(r:Ru)(hP:P r)(m:Mem)(hr:RepR m r):CX Tryz.prog 28 #[.agg r.cs.toArray] m [] (ZAt P):=by
 apply ZnG
 intro b m1 aB _ b0 b1 pD b2 jV b3 gZ
 have l1:m1.le _:=Mem.le_add pD (ZiE.map Va.cs).flatten
 have l2:=Mem.le_add jV r.cs
 have l3:=Mem.le_add gZ [.string ⟨#[97]⟩,.slice (some ⟨b2,0,none⟩) 1 1]
 have r1:=Zaq m1 b1 (ZiE.map Va.cs).flatten
 have r2:=Zaq (m1.add b1 (ZiE.map Va.cs).flatten) b2 r.cs
 have r3:=Zaq ((m1.add b1 (ZiE.map Va.cs).flatten).add b2 r.cs) b3 [.string ⟨#[97]⟩,.slice (some ⟨b2,0,none⟩) 1 1]
 refine⟨_,mLt aB (mLt l1 (mLt l2 l3)),Mem.le_refl _,some ⟨b1,0,none⟩,some ⟨b3,0,none⟩,some ⟨b2,0,none⟩,r,hP,rfl,?_⟩
 refine⟨by show(-9223372036854775808:Int)<=9/\(9:Int)<=9223372036854775807;decide,by show 2<=few;decide,.inr ⟨b1,0,rfl,r1.mono (mLt l2 l3)⟩,λv hv=>?_,by show 1<=few;decide,.inr ⟨b3,0,rfl,r3⟩,λx hx=>?_,Nat.le_refl 2,Nat.le_refl 1⟩
 ·simp only[Zht,ZiE,List.mem_cons,List.not_mem_nil,or_false]at hv
  rcases hv with rfl|rfl <;> exact⟨by decide,by decide⟩
 ·simp only[Zht,List.mem_cons,List.not_mem_nil,or_false]at hx
  subst hx
  refine⟨by show ByteArray.size ⟨#[97]⟩<=_;decide,by show 1<=few;decide,.inr ⟨b2,0,rfl,?_⟩,λz hz=>?_⟩
  ·have:(List.map Ru.cs [r]).flatten=r.cs:=by simp
   rw[this];exact r2.mono l3
  ·simp only[List.mem_cons,List.not_mem_nil,or_false]at hz
   subst hz
   exact hr.mono (mLt aB (mLt l1 (mLt l2 l3)))
def Zww(l:List Int):Value->Mem->List (List Value)->Prop:=λv m' _=>∃pa pc b,v=.slice (some ⟨b,0,none⟩) 1 1/\m'.reads b 0 (ZnU pa pc l).cs/\RepA m' (ZnU pa pc l)
theorem Zh6{l}:∀(v:Value)(m':Mem) (css:List (List Value)),Zww l v m' css->Shape.fits .slice v=true:=λv _ _ ⟨_,_,_,e,_⟩=>by rw[e];rfl
theorem Zyb(n:Int)(hn:I64 n)(m:Mem):RepP m (Zv6 n):=⟨by show(0:Int)<=3/\(3:Int) < 256;decide,by show ByteArray.size ⟨#[]⟩<=_;decide,hn,Zpm m⟩
theorem ZqE(l:List Int)(a:Option Addr)(c:Nat)(m:Mem)(hl:l.length<=2)(hn:∀n∈l,I64 n)(aD:rowRd m a (l.map (Value.int .i64))):CX Tryz.prog 30 #[.slice a l.length c] m [] (Zww l):=by
 apply Zll
 intro b
 refine⟨λxs css tks m' q=>∃(i:Nat)(pa:Option Addr)(pc:Nat),i<=l.length/\xs=[.int .i64 i]/\css=[[.int .u8 1,.string ⟨#[]⟩,.slice pa i pc,.int .u8 0,.float .f64 0,.string ⟨#[]⟩,.int .i64 0,.slice none 0 0]]/\tks=[.slice pa i pc]/\rowRd m' pa (((l.take i).map Zv6).map Pt.cs).flatten/\q=l.length - i,
  ⟨l.length,0,none,0,by omega,rfl,rfl,rfl,.inl rfl,rfl⟩,?_⟩
 rintro n cs a1 n1 c1 m1 q aB ⟨i,pa,pc,hi,hx,cA,ht,hr,rfl⟩
 simp only[List.cons.injEq,Value.int.injEq,and_true,true_and]at hx
 subst hx
 obtain rfl:cs=_:=by simpa using cA
 obtain⟨rfl,rfl,rfl⟩:a1=pa/\n1=i/\c1=pc:=by simpa using ht
 refine Zav (λaG=>?_) (λbK=>?_)
 ·have aG:(n1:Int) < (l.length:Int):=aG
  obtain⟨n,mY⟩:=ZcC (show n1 < l.length by omega)
  obtain⟨b2,o2,ha,hc⟩:=ZCr (aD.mono aB) (show(l.map (Value.int .i64))[n1]?=some (.int .i64 n) by rw[List.getElem?_map,mY];rfl)
  refine⟨b2,o2,ha,⟨by omega,aG⟩,_,hc,Zan (v:=.slice a1 n1 c1) rfl (Zaa rfl (Zaa rfl λb3 gZ=>Zaa rfl ?_))⟩
  have bH:m1.le (m1.add b3 (Zv6 n).cs):=Mem.le_add gZ _
  have aQ:(((l.take n1).map Zv6).map Pt.cs).flatten.length=n1*8:=by
   have:∀L:List Int,((L.map Zv6).map Pt.cs).flatten.length=L.length*8:=λL=>by
    induction L with
    | nil=>rfl
    | cons x L ih=>rw[List.map_cons,List.map_cons,List.flatten_cons,zA1,ih,List.length_cons,Nat.succ_mul];show 8+_=_;omega
   rw[this,List.length_take,Nat.min_eq_left (by omega)]
  refine⟨.inl rfl,(((l.take n1).map Zv6).map Pt.cs).flatten,(Zv6 n).cs,aQ,rfl,hr.mono bH,.inr ⟨b3,0,rfl,Zaq m1 b3 _⟩,?_,by show(n1+1)*96<=_;omega,by show n1+1<=_;omega,λa' c' m2 aH gD=>Zaa rfl ⟨rfl,l.length - (n1+1),by omega,n1+1,a',c',by omega,?_,rfl,rfl,?_,rfl⟩⟩
  ·intro u hu
   simp only[Zv6,Pt.cs,List.mem_cons,List.not_mem_nil,or_false]at hu
   rcases hu with rfl|rfl|rfl|rfl|rfl|rfl|rfl|rfl <;> rfl
  ·rw[Zal (by omega) (by omega)];rfl
  ·rw[List.take_add_one,mY,List.map_append,List.map_append,List.flatten_append]
   have:(List.map Pt.cs (List.map Zv6 (some n).toList)).flatten=(Zv6 n).cs:=by simp
   rw[this];exact gD
 ·have bK:¬(n1:Int) < (l.length:Int):=bK
  obtain rfl:n1=l.length:=by omega
  refine Zaa rfl λb2 jV=>?_
  have bH:m1.le (m1.add b2 (ZnU a1 c1 l).cs):=Mem.le_add jV _
  have lW:(l.map Zv6).length=l.length:=List.length_map _
  have cA:(ZnU a1 c1 l).cs=[.int .u8 1,.string ⟨#[]⟩,.slice a1 l.length c1,.int .u8 0,.float .f64 0,.string ⟨#[]⟩,.int .i64 0,.slice none 0 0]:=by
   show[Value.int .u8 1,.string ⟨#[]⟩,.slice a1 (l.map Zv6).length c1,.int .u8 0,.float .f64 0,.string .empty,.int .i64 0,.slice none 0 0]=_
   rw[lW];rfl
  rw[cA]at bH
  refine⟨_,mLt aB bH,Mem.le_refl _,a1,c1,b2,rfl,?_,?_⟩
  ·rw[cA];exact Zaq m1 b2 _
  ·rw[List.take_length]at hr
   refine⟨by show(0:Int)<=1/\(1:Int) < 256;decide,by show ByteArray.size ⟨#[]⟩<=_;decide,?_,hr.mono bH,λp hp=>?_,Zpm _⟩
   ·show(l.map Zv6).length<=few
    rw[lW];unfold few;omega
   ·obtain⟨n,hn',rfl⟩:=List.mem_map.1 hp
    exact Zyb n (hn n hn') _
theorem Zdq(p0 p1 p2 p3:Int)(m:Mem):CX Tryz.prog 27 #[.int .i64 p0,.int .i64 p1,.int .i64 p2,.int .i64 p3] m [] (Ret (.agg #[.int .i64 (-1),.int .i64 p0,.int .i64 p1,.int .i64 p2,.int .i64 p3])):=by
 apply ZgS
 exact λb=>Zac (Mem.le_refl m) rfl
end Go.Proofs.YtdopppmkbkkmiaaGreatDoor