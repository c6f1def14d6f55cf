/- Part of the proof: functions of the program. No condition. -/
import Derived.Test.YtdopppmkbkkmiaaGreatDoorPC25H
import Derived.Test.YtdopppmkbkkmiaaGreatDoorMr
import Derived.Test.YtdopppmkbkkmiaaGreatDoorPEnv
import Derived.Test.YtdopppmkbkkmiaaGreatDoorMc
import Derived.Test.YtdopppmkbkkmiaaGreatDoorPVEX
import Derived.Test.YtdopppmkbkkmiaaGreatDoorPC25MA
set_option linter.unusedVariables false
set_option linter.unusedSimpArgs false
set_option linter.unusedSectionVars false
noncomputable section
namespace Go.Proofs.YtdopppmkbkkmiaaGreatDoor
open Go Go.Eng Go.Rx Go.Proofs Go.RowKit
set_option maxRecDepth 100000
def ZwE(a:Ac):Bool:=!Zbl a.k 1 3||(a.k == 1&&!(a.s.size == 0))||(a.k == 3&&decide (a.parts.length > 0))||(a.k == 3&&!a.e.clean)||(!(a.k == 3)&&!Zme a.e)||decide (a.parts.length > 16)
theorem Zr4(a:Ac)(m:Mem)(b b1:Nat)(hr:RepA m a)(hb:m.reads b 0 a.cs)(cB:m.reads b1 0 [.bool (a.k == 3)]):CX Tryz.prog 135 #[.pointer (some ⟨b,0,none⟩),.pointer (some ⟨b1,0,none⟩)] m [] (Ret (.bool (ZwE a))):=by
 apply ZfN (c0b:=b) (c0o:=0) (c1b:=b1) (c1o:=0)
 have hw:IntKind.i64.wrap a.k=a.k:=Zam (by have:=hr.k;omega) (by have:=hr.k;omega)
 have num:∀{M:Mem} {Q:Bool->Prop},m.le M->Q (a.k == 3)->∃v:Value,M.c b1 0=some v/\∃x:Bool,v=.bool x/\Q x:=λhM h=>⟨_,(cB.mono hM) 0 _ rfl,_,rfl,h⟩
 have big:∀{M:Mem},m.le M->ZwE a=decide (a.parts.length > 16)->∃v:Value,M.c b (0+2)=some v/\chk (Za5 v) ([Value.bool (decide ((slN v:Int) > 16))]=[Value.bool (ZwE a)]):=λhM h=>⟨_,(hb.mono hM) 2 _ rfl,Zaa rfl (Zag (by
  rw[h]
  show decide ((a.parts.length:Int) > 16)=decide (a.parts.length > 16)
  rw[decide_eq_decide];omega))⟩
 refine⟨ZwE a,?_,Zac (Mem.le_refl m) rfl⟩
 refine⟨_,hb 0 _ rfl,Zaa rfl ?_⟩
 show ∃R:RT,True/\CX Tryz.prog 124 #[.int .i64 (IntKind.i64.wrap a.k),.int .i64 1,.int .i64 3] m [] R/\_
 rw[hw]
 refine Zah (ZeG a.k 1 3 m) λm1 aB=>Zab (λh=>Zag ?_) (λeG=>⟨_,(hb.mono aB) 0 _ rfl,Zaa rfl ?_⟩)
 ·unfold ZwE;rw[h];rfl
 cases hn:(a.k == 3)with
 | true=>
  have hk:a.k=3:=by simpa using hn
  refine ZcF (by show(a.k == 1)=false;rw[hk];rfl) (num aB (Zmq hn ⟨_,(hb.mono aB) 2 _ rfl,Zaa rfl (Zax (λh=>Zag ?_) (λh=>num aB (Zmq hn ⟨_,_,_,_,_,Zb0 (hb.mono aB) 3 5,Zah (Zqp a.e m1 (RepE.mono aB _ hr.e)) λm2 aO=>Zab (λh2=>Zag ?_) (λh2=>num (mLt aB aO) (ZcF (by rw[hn];rfl) (big (mLt aB aO) ?_)))⟩)))⟩))
  ·have h:(a.parts.length:Int) > 0:=h
   unfold ZwE;rw[hn,decide_eq_true (p:=a.parts.length > 0) (by omega),eG];simp
  ·have h:¬(a.parts.length:Int) > 0:=h
   unfold ZwE;rw[hn,h2];simp
  ·have h:¬(a.parts.length:Int) > 0:=h
   unfold ZwE;rw[hn,h2,eG,decide_eq_false (p:=a.parts.length > 0) (by omega),hk];simp
 | false=>
  refine Zab (λh1=>⟨_,(hb.mono aB) 1 _ rfl,Zaa rfl (Zab (λh=>Zag ?_) (λh=>num aB (ZcF hn (num aB (ZcF hn (num aB (Zmq (by rw[hn];rfl) ⟨_,_,_,_,_,Zb0 (hb.mono aB) 3 5,Zah (ZwD a.e m1 (RepE.mono aB _ hr.e)) λm2 aO=>Zab (λh2=>Zag ?_) (λh2=>big (mLt aB aO) ?_)⟩)))))))⟩)
   (λh1=>num aB (ZcF hn (num aB (ZcF hn (num aB (Zmq (by rw[hn];rfl) ⟨_,_,_,_,_,Zb0 (hb.mono aB) 3 5,Zah (ZwD a.e m1 (RepE.mono aB _ hr.e)) λm2 aO=>Zab (λh2=>Zag ?_) (λh2=>big (mLt aB aO) ?_)⟩))))))
  ·have h1:(a.k == 1)=true:=h1
   have h:(!(a.s.size == 0))=true:=by rw[<-Zb1];exact h
   unfold ZwE;rw[h1,h];simp
  ·unfold ZwE;rw[hn,h2];simp
  ·have h:(!(a.s.size == 0))=false:=by rw[<-Zb1];exact h
   unfold ZwE;rw[hn,h2,h,eG];simp
  ·unfold ZwE;rw[hn,h2];simp
  ·have h1:(a.k == 1)=false:=h1
   unfold ZwE;rw[hn,h2,h1,eG];simp
def ZAD(s:Sc)(a:Ac):Bool:=(!(a.k == 1)&&(!(ZbK s a.s).2||!((ZbK s a.s).1 == (a.k == 3))))||(a.k == 3&&!Zbj s a.e)
theorem Zr5(s:Sc)(a:Ac)(m:Mem)(b b1 b2:Nat)(hs:RepC m s)(hr:RepA m a)(hb:m.reads b 0 s.cs)(cB:m.reads b1 0 a.cs)(eH:m.reads b2 0 [.bool (a.k == 3)]):
  CX Tryz.prog 138 #[.pointer (some ⟨b,0,none⟩),.pointer (some ⟨b1,0,none⟩),.pointer (some ⟨b2,0,none⟩)] m [] (Ret (.bool (ZAD s a))):=by
 apply ZfO (c0b:=b) (c0o:=0) (c1b:=b1) (c1o:=0) (c2b:=b2) (c2o:=0)
 refine⟨_,_,_,hb,_,cB 1 _ rfl,Zaj (Ztx s a.s m hs) (λv _ _ e=>by rw[show v=_ from e];rfl) ?_⟩
 intro x y m1 aB hv
 have hv:Value.tuple (Array.mk [Value.bool x,Value.bool y])=Value.tuple #[.bool (ZbK s a.s).1,.bool (ZbK s a.s).2]:=hv
 simp only[Value.tuple.injEq,Array.mk.injEq,List.cons.injEq,Value.bool.injEq,and_true]at hv
 obtain⟨rfl,rfl⟩:=hv
 have num:∀{M:Mem} {Q:Bool->Prop},m.le M->Q (a.k == 3)->∃v:Value,M.c b2 0=some v/\∃x:Bool,v=.bool x/\Q x:=λhM h=>⟨_,(eH.mono hM) 0 _ rfl,_,rfl,h⟩
 have three:ZAD s a=(a.k == 3&&!Zbj s a.e)->∃v:Value,m1.c b2 0=some v/\∃x:Bool,v=.bool x/\br x (∃v v4 v5:Value,m1.reads b 0 [v,v4,v5]/\∃v6 v7 v8 v9 v10:Value,m1.reads b1 (0+3) [v6,v7,v8,v9,v10]/\∃R:RT,True/\CX Tryz.prog 140 #[.agg #[v,v4,v5],.agg #[v6,v7,v8,v9,v10]] m1 [] R/\ZaU .bool R/\∀(x:Bool)(m':Mem),m1.le m'->R (.bool x) m' []->[Value.bool !x]=[Value.bool (ZAD s a)]) ([Value.bool false]=[Value.bool (ZAD s a)]):=λhe=>num aB (Zab (λh3=>⟨_,_,_,hb.mono aB,_,_,_,_,_,Zb0 (cB.mono aB) 3 5,Zah (ZiC s a.e m1 (hs.mono aB) (RepE.mono aB _ hr.e)) λm2 aO=>Zag (by rw[he,h3];rfl)⟩) (λh3=>Zag (by rw[he,h3];rfl)))
 refine⟨ZAD s a,⟨_,(cB.mono aB) 0 _ rfl,Zaa rfl (Zab (λh1=>Zab (λh2=>Zag ?_) (λh2=>num aB (Zab (λh3=>Zag ?_) (λh3=>three ?_)))) (λh1=>three ?_))⟩,Zac aB rfl⟩
 ·have h1:(!(a.k == 1))=true:=h1
  unfold ZAD;rw[h1,h2];rfl
 ·have h1:(!(a.k == 1))=true:=h1
  unfold ZAD;rw[h1,h3];simp
 ·have h1:(!(a.k == 1))=true:=h1
  unfold ZAD;rw[h1,h2,h3];rfl
 ·have h1:(!(a.k == 1))=false:=h1
  unfold ZAD;rw[h1];rfl
def ZCP(r:Ru)(a:Ac):Bool:=a.k == 3&&decide (a.e.most > ZbW r)
theorem Zr6(r:Ru)(a:Ac)(m:Mem)(b b1 b2:Nat)(hr:RepR m r)(ha:RepA m a)(hb:m.reads b 0 [.bool (a.k == 3)])(cB:m.reads b1 0 a.cs)(eH:m.reads b2 0 r.cs):
  CX Tryz.prog 141 #[.pointer (some ⟨b,0,none⟩),.pointer (some ⟨b1,0,none⟩),.pointer (some ⟨b2,0,none⟩)] m [] (Ret (.bool (ZCP r a))):=by
 apply ZfP (c0b:=b) (c0o:=0) (c1b:=b1) (c1o:=0) (c2b:=b2) (c2o:=0)
 refine⟨λi _ _=>match i with
  | 4=>Ret (.int .i64 a.e.most)
  | _=>Ret (.int .i64 (ZbW r)),_,hb 0 _ rfl,_,rfl,Zab (λh=>?_) (λh M hM _ _=>Zac hM ?_)⟩
 ·refine⟨_,_,_,_,_,Zb0 cB 3 5,_,rfl,Ztw a.e m ha.e,λv _ _ e=>by rw[show v=_ from e];rfl,λn m1 aB hn=>?_⟩
  obtain rfl:n=a.e.most:=by cases hn;rfl
  refine⟨_,_,_,_,_,_,_,_,_,_,_,_,_,_,_,_,eH,_,rfl,Zgo r m1 (hr.t.mono aB),λv _ _ e=>by rw[show v=_ from e];rfl,λn1 m2 aO hn M hM _ _=>Zac hM ?_⟩
  obtain rfl:n1=ZbW r:=by cases hn;rfl
  show Value.bool _=Value.bool (ZCP r a)
  unfold ZCP;rw[h];rfl
 ·show Value.bool _=Value.bool (ZCP r a)
  unfold ZCP;rw[h];rfl
theorem Zvr(s:Sc)(r:Ru)(a:Ac)(m:Mem)(hs:RepC m s)(hr:RepR m r)(ha:RepA m a):CX Tryz.prog 101 #[s.v,.agg r.cs.toArray,.agg a.cs.toArray] m [] (Ret (.int .i64 (ZaW s r a))):=by
 apply ZhZ
 intro b m1 aB hb b1 m2 aO cB b2 m3 aQ eH b3 b4 hf m4 bN eI
 have cO:=mLt aB (mLt aO aQ)
 have oe:=mLt (Mem.le_add hf _) bN
 refine ZaB (Zgp [((307,135,[.pointer (some ⟨b2,0,none⟩),.pointer (some ⟨b3,0,none⟩)]),ZwE a),((308,138,[.pointer (some ⟨b,0,none⟩),.pointer (some ⟨b2,0,none⟩),.pointer (some ⟨b3,0,none⟩)]),ZAD s a),
  ((309,141,[.pointer (some ⟨b3,0,none⟩),.pointer (some ⟨b2,0,none⟩),.pointer (some ⟨b1,0,none⟩)]),ZCP r a)] _ 3 _ (by simp) (.inr ⟨b4,0,rfl,(Zay m3 b4 _).mono bN⟩) λx hx m' hm'=>?_) λm5 cE=>Zac (mLt cO (mLt oe cE)) rfl
 have hl:=mLt oe hm'
 have h0':=mLt cO hl
 simp only[List.mem_cons,List.not_mem_nil,or_false]at hx
 rcases hx with rfl|rfl|rfl
 ·exact Zr4 a m' b2 b3 (ha.mono h0') (eH.mono hl) (eI.mono hm')
 ·exact Zr5 s a m' b b2 b3 (hs.mono h0') (ha.mono h0') (hb.mono (mLt aO (mLt aQ hl))) (eH.mono hl) (eI.mono hm')
 ·exact Zr6 r a m' b3 b2 b1 (hr.mono h0') (ha.mono h0') (eI.mono hm') (eH.mono hl) (cB.mono (mLt aQ hl))
def ZtA(l:List Pt)(i:Nat)(p:Pt):Bool:=!Zbm p||(decide (i > 0)&&(p.k == 1&&(match l[i - 1]? with
 | some q=>q.k == 1
 | none=>false)))
theorem Zyk(l:List Pt)(a:Option Addr)(c:Nat)(i:Nat)(p:Pt)(m:Mem)(b b1 b2:Nat)(hl:l.length<=few)(aC:rowRd m a (l.map Pt.cs).flatten)(hi:i<=l.length)(hp:RepP m p)(hb:m.reads b 0 p.cs)(cB:m.reads b1 0 [.int .i64 i])(eH:m.reads b2 0 [.slice a l.length c]):
  CX Tryz.prog 143 #[.pointer (some ⟨b,0,none⟩),.pointer (some ⟨b1,0,none⟩),.pointer (some ⟨b2,0,none⟩)] m [] (Ret (.bool (ZtA l i p))):=by
 apply Zh0 (c0b:=b) (c0o:=0) (c1b:=b1) (c1o:=0) (c2b:=b2) (c2o:=0)
 unfold few at hl
 refine⟨ZtA l i p,⟨_,_,_,_,_,_,_,_,hb,Zah (ZnO p m hp) λm1 aB=>Zab (λh=>Zag ?_) (λh=>⟨_,(cB.mono aB) 0 _ rfl,Zaa rfl (Zax (λh2=>⟨_,(hb.mono aB) 0 _ rfl,Zaa rfl (Zab (λh3=>?_) (λh3=>Zag ?_))⟩) (λh2=>Zag ?_))⟩)⟩,Zac (Mem.le_refl m) rfl⟩
 ·unfold ZtA;rw[h];rfl
 ·have h2:(i:Int) > 0:=h2
  have h3:(p.k == 1)=true:=h3
  have aH:i - 1 < l.length:=by omega
  obtain⟨q,hq⟩:=Zcq aH
  have hw:IntKind.i64.wrap ((i:Int) - 1)=((i - 1:Nat):Int):=by rw[Zam (by omega) (by omega)];omega
  obtain⟨b3,o3,ha,hx⟩:=Zan Pt.len (aC.mono aB) hq (by omega)
  refine⟨_,(eH.mono aB) 0 _ rfl,_,(cB.mono aB) 0 _ rfl,Zaa rfl (Zaa rfl ⟨b3,o3,ha,?_,.int .u8 q.k,?_,Zaa rfl (Zag ?_)⟩)⟩
  ·show Zaf (IntKind.i64.wrap ((i:Int) - 1)) l.length
   rw[hw];exact⟨by omega,by omega⟩
  ·show m1.c b3 (o3+(IntKind.i64.wrap ((i:Int) - 1)).toNat*8+0)=_
   rw[hw,zA8]
   exact hx 0 _ rfl
  ·show(q.k == 1)=_
   unfold ZtA;rw[h,decide_eq_true (p:=i > 0) (by omega),h3,hq];rfl
 ·have h3:(p.k == 1)=false:=h3
  unfold ZtA;rw[h,h3];simp
 ·have h2:¬(i:Int) > 0:=h2
  unfold ZtA;rw[h,decide_eq_false (p:=i > 0) (by omega)];rfl
def ZqY(s:Sc)(p:Pt):Bool:=(p.k == 2&&!(ZbK s p.s).2)||(p.k == 4&&!Zbj s p.e)
theorem Zyl(s:Sc)(p:Pt)(m:Mem)(b b1:Nat)(hs:RepC m s)(hp:RepP m p)(hb:m.reads b 0 s.cs)(cB:m.reads b1 0 p.cs):
  CX Tryz.prog 145 #[.pointer (some ⟨b,0,none⟩),.pointer (some ⟨b1,0,none⟩)] m [] (Ret (.bool (ZqY s p))):=by
 apply Zh1 (c0b:=b) (c0o:=0) (c1b:=b1) (c1o:=0)
 refine⟨_,_,_,hb,_,cB 1 _ rfl,Zaj (Ztx s p.s m hs) (λv _ _ e=>by rw[show v=_ from e];rfl) ?_⟩
 intro x y m1 aB hv
 have hv:Value.tuple (Array.mk [Value.bool x,Value.bool y])=Value.tuple #[.bool (ZbK s p.s).1,.bool (ZbK s p.s).2]:=hv
 simp only[Value.tuple.injEq,Array.mk.injEq,List.cons.injEq,Value.bool.injEq,and_true]at hv
 obtain⟨rfl,rfl⟩:=hv
 refine⟨ZqY s p,⟨_,(cB.mono aB) 0 _ rfl,Zaa rfl (Zab (λh1=>Zab (λh2=>Zag ?_) (λh2=>⟨_,(cB.mono aB) 0 _ rfl,Zaa rfl (Zab (λh3=>⟨_,_,_,hb.mono aB,_,_,_,_,_,Zb0 (cB.mono aB) 3 5,Zah (ZiC s p.e m1 (hs.mono aB) (RepE.mono aB _ hp.e)) λm2 aO=>Zag ?_⟩) (λh3=>Zag ?_))⟩))
  (λh1=>⟨_,(cB.mono aB) 0 _ rfl,Zaa rfl (Zab (λh3=>⟨_,_,_,hb.mono aB,_,_,_,_,_,Zb0 (cB.mono aB) 3 5,Zah (ZiC s p.e m1 (hs.mono aB) (RepE.mono aB _ hp.e)) λm2 aO=>Zag ?_⟩) (λh3=>Zag ?_))⟩))⟩,Zac aB rfl⟩
 ·have h1:(p.k == 2)=true:=h1
  unfold ZqY;rw[h1,h2];rfl
 ·have h1:(p.k == 2)=true:=h1
  have h3:(p.k == 4)=true:=h3
  unfold ZqY;rw[h1,h2,h3];rfl
 ·have h1:(p.k == 2)=true:=h1
  have h3:(p.k == 4)=false:=h3
  unfold ZqY;rw[h1,h2,h3];rfl
 ·have h1:(p.k == 2)=false:=h1
  have h3:(p.k == 4)=true:=h3
  unfold ZqY;rw[h1,h3];rfl
 ·have h1:(p.k == 2)=false:=h1
  have h3:(p.k == 4)=false:=h3
  unfold ZqY;rw[h1,h3];rfl
def ZnZ(r:Ru)(p:Pt):Bool:=(p.k == 3&&decide (p.g > ZbW r))||(p.k == 4&&decide (p.e.most > ZbW r))
theorem Zym(r:Ru)(p:Pt)(m:Mem)(b b1:Nat)(hr:RepR m r)(hp:RepP m p)(hb:m.reads b 0 p.cs)(cB:m.reads b1 0 r.cs):
  CX Tryz.prog 146 #[.pointer (some ⟨b,0,none⟩),.pointer (some ⟨b1,0,none⟩)] m [] (Ret (.bool (ZnZ r p))):=by
 apply Zh2 (c0b:=b) (c0o:=0) (c1b:=b1) (c1o:=0)
 refine⟨λi _ _=>match i with
  | 17=>Ret (.int .i64 p.e.most)
  | _=>Ret (.int .i64 (ZbW r)),_,hb 0 _ rfl,Zaa rfl (Zab (λh3=>?_) (λh3=>?_))⟩
 ·have h3:(p.k == 3)=true:=h3
  have hk:p.k=3:=by simpa using h3
  refine⟨_,hb 2 _ rfl,_,_,_,_,_,_,_,_,_,_,_,_,_,_,_,_,cB,_,rfl,Zgo r m hr.t,λv _ _ e=>by rw[show v=_ from e];rfl,λn m1 aB hn=>?_⟩
  obtain rfl:n=ZbW r:=by cases hn;rfl
  refine Zaa rfl (Zax (λh=>λM hM _ _ _=>Zac hM ?_) (λh=>⟨_,(hb.mono aB) 0 _ rfl,Zaa rfl (ZcF (by show(p.k == 4)=false;rw[hk];rfl) λM hM _ _ _=>Zac hM ?_)⟩))
  ·have h:p.g > ZbW r:=h
   show Value.bool _=Value.bool (ZnZ r p)
   unfold ZnZ;rw[h3,decide_eq_true h];rfl
  ·have h:¬p.g > ZbW r:=h
   show Value.bool _=Value.bool (ZnZ r p)
   unfold ZnZ;rw[decide_eq_false h,hk];rfl
 ·have h3:(p.k == 3)=false:=h3
  refine⟨_,hb 0 _ rfl,Zaa rfl (Zab (λh4=>?_) (λh4 M hM _ _ _=>Zac hM ?_))⟩
  ·have h4:(p.k == 4)=true:=h4
   refine⟨_,_,_,_,_,Zb0 hb 3 5,_,rfl,Ztw p.e m hp.e,λv _ _ e=>by rw[show v=_ from e];rfl,λn m1 aB hn=>?_⟩
   obtain rfl:n=p.e.most:=by cases hn;rfl
   refine⟨_,_,_,_,_,_,_,_,_,_,_,_,_,_,_,_,cB,_,rfl,Zgo r m1 (hr.t.mono aB),λv _ _ e=>by rw[show v=_ from e];rfl,λn1 m2 aO hn M hM _ _ _=>Zac hM ?_⟩
   obtain rfl:n1=ZbW r:=by cases hn;rfl
   show Value.bool _=Value.bool (ZnZ r p)
   unfold ZnZ;rw[h3,h4];rfl
  ·have h4:(p.k == 4)=false:=h4
   show Value.bool _=Value.bool (ZnZ r p)
   unfold ZnZ;rw[h3,h4];rfl
theorem ZkC(s:Sc)(r:Ru)(l:List Pt)(i:Nat)(p:Pt):Zds s r l i p=ZaY [(307,ZtA l i p),(308,ZqY s p),(309,ZnZ r p)]:=rfl
theorem ZAE(s:Sc)(r:Ru)(l:List Pt)(a:Option Addr)(c:Nat)(i:Nat)(p:Pt)(m:Mem)(hs:RepC m s)(hr:RepR m r)(hl:l.length<=few)(aC:rowRd m a (l.map Pt.cs).flatten)(bQ:∀x∈l,RepP m x)(hi:l[i]?=some p):
  CX Tryz.prog 102 #[s.v,.agg r.cs.toArray,.slice a l.length c,.int .i64 i] m [] (Ret (.int .i64 (Zds s r l i p))):=by
 apply Zll
 intro b m1 aB hb b1 m2 aO cB b2 m3 aQ eH b3 m4 bN eI
 have pT:=mLt aQ bN
 have jt:=mLt aO pT
 have kN:=mLt aB jt
 have aH:=(zA0 hi).1
 have hl':=hl
 unfold few at hl'
 obtain⟨b4,o4,ha,hx⟩:=Zan Pt.len (aC.mono kN) hi (by omega)
 refine⟨b4,o4,ha,⟨by omega,by omega⟩,_,_,_,_,_,_,_,_,hx,λb5=>Zaa rfl λb6 hf m5 cE uB=>?_⟩
 have wo:=mLt (Mem.le_add hf _) cE
 refine ZaB (Zgp [((307,143,[.pointer (some ⟨b5,0,none⟩),.pointer (some ⟨b3,0,none⟩),.pointer (some ⟨b2,0,none⟩)]),ZtA l i p),((308,145,[.pointer (some ⟨b,0,none⟩),.pointer (some ⟨b5,0,none⟩)]),ZqY s p),
  ((309,146,[.pointer (some ⟨b5,0,none⟩),.pointer (some ⟨b1,0,none⟩)]),ZnZ r p)] _ 3 _ (by simp) (.inr ⟨b6,0,rfl,(Zay m4 b6 _).mono cE⟩) λx hx m' hm'=>?_) λm6 ig=>Zac (mLt kN (mLt wo ig)) rfl
 have hl:=mLt wo hm'
 have h0':=mLt kN hl
 have hp:=(bQ p (zA2 hi)).mono h0'
 simp only[List.mem_cons,List.not_mem_nil,or_false]at hx
 rcases hx with rfl|rfl|rfl
 ·exact Zyk l a c i p m' b5 b3 b2 (by unfold few;omega) (aC.mono h0') (by omega) hp (uB.mono hm') (eI.mono hl) (eH.mono (mLt bN hl))
 ·exact Zyl s p m' b b5 (hs.mono h0') hp (hb.mono (mLt jt hl)) (uB.mono hm')
 ·exact Zym r p m' b5 b1 (hr.mono h0') hp (uB.mono hm') (cB.mono (mLt pT hl))
theorem Zoi(r:Ru):0<=sizeR r/\sizeR r<=10001:=by
 have:=ZjN r.t
 unfold sizeR;split <;> omega
theorem ZAF{α:Type}(f:α->Int)(B:Int)(l:List α)(hf:∀x∈l,f x<=B):ZbF (l.map f)<=l.length*B:=by
 induction l with
 | nil=>simp[ZbF]
 | cons x l ih=>
  have h1:=hf x (by simp)
  have h2:=ih λy hy=>hf y (by simp[hy])
  simp only[List.map_cons,ZbF,List.length_cons]
  push_cast
  rw[Int.add_mul];omega
def Zvs(x:Sta):Int:=ZbF (x.rules.map sizeR)
def T0s(s:Sc)(i:Nat):Int:=ZbF ((s.states.take i).map Zvs)
theorem Zvt{s:Sc}{i:Nat}{x:Sta}(h:s.states[i]?=some x)(k:Nat):totals s i k=T0s s i+ZbF ((x.rules.take (k+1)).map sizeR):=by
 unfold totals;rw[h];rfl
theorem Zoj{m:Mem}{x:Sta}(hx:RepS m x)(k:Nat):0<=ZbF ((x.rules.take k).map sizeR)/\ZbF ((x.rules.take k).map sizeR)<=1000100000:=by
 have hl:=hx.len
 unfold few at hl
 refine⟨Zfv _ (λr=>(Zoi r).1) _,?_⟩
 have:=ZAF sizeR 10001 (x.rules.take k) λr _=>(Zoi r).2
 rw[List.length_take]at this
 omega
theorem ZDF{m:Mem}{s:Sc}(hs:RepC m s)(i:Nat):0<=T0s s i/\T0s s i<=100010000000000:=by
 have hl:=hs.len
 unfold few at hl
 refine⟨Zfv _ (λx=>Zfv _ (λr=>(Zoi r).1) _) _,?_⟩
 have:=ZAF Zvs 1000100000 (s.states.take i) λx hx=>by
  have:=(Zoj (hs.all x (List.mem_of_mem_take hx)) x.rules.length).2
  rw[List.take_length]at this;exact this
 rw[List.length_take]at this
 unfold T0s;omega
def ZyX(s:Sc)(i n:Nat):List Value:=(List.range n).map λj=>.int .i64 (totals s i j)
theorem Zyn(s:Sc)(i n:Nat):(ZyX s i n).length=n:=by simp[ZyX]
theorem Zvu(s:Sc)(i n:Nat):ZyX s i (n+1)=ZyX s i n++[.int .i64 (totals s i n)]:=by simp[ZyX,List.range_succ]
def TotI(s:Sc)(i:Nat)(a:Option Addr)(vs:List Value)(m:Mem):Prop:=vs.length=i/\rowRd m a vs/\∀(k:Nat)(x:Sta),k < i->s.states[k]?=some x->∃ak ck,vs[k]?=some (.slice ak x.rules.length ck)/\rowRd m ak (ZyX s k x.rules.length)
theorem TotI.mono{s:Sc}{i:Nat}{a:Option Addr}{vs:List Value}{m m':Mem}(h:TotI s i a vs m)(hm:m.le m'):TotI s i a vs m':=⟨h.1,h.2.1.mono hm,λk x hk hx=>by
 obtain⟨ak,ck,h1,h2⟩:=h.2.2 k x hk hx
 exact⟨ak,ck,h1,h2.mono hm⟩⟩
def ZDY(s:Sc):Value->Mem->List (List Value)->Prop:=λv m _=>∃a c vs,v=.slice a s.states.length c/\TotI s s.states.length a vs m
theorem ZtB{s}:∀(v:Value)(m':Mem) (css:List (List Value)),ZDY s v m' css->Shape.fits .slice v=true:=λv _ _ ⟨_,_,_,e,_⟩=>by rw[e];rfl
set_option maxHeartbeats 1000000 in
theorem Zqz(s:Sc)(m:Mem)(hr:RepC m s):CX Tryz.prog 72 #[s.v] m [] (ZDY s):=by
 apply Zh3
 intro b m1 aB _
 have eR:=hr.len
 unfold few at eR
 refine⟨λxs _ tks m' q=>∃(i:Nat)(a:Option Addr)(c:Nat)(vs:List Value),i<=s.states.length/\xs=[.int .i64 (T0s s i),.slice a i c,.int .i64 i]/\tks=[.slice a i c]/\m1.le m'/\TotI s i a vs m'/\q=s.states.length - i,
  ⟨s.states.length,0,none,0,[],by omega,rfl,rfl,Mem.le_refl _,⟨rfl,.inl rfl,λk x hk=>absurd hk (by omega)⟩,rfl⟩,?_⟩
 rintro n a n1 c n2 a1 n3 c1 m2 q aO ⟨i,A,C,vs,hi,hx,ht,bG,hT,hq⟩
 simp only[List.cons.injEq,Value.int.injEq,Value.slice.injEq,and_true,true_and]at hx ht
 obtain⟨rfl,⟨ea,en,ec⟩,rfl⟩:=hx
 obtain⟨ea',en',ec'⟩:=ht
 subst a1 n3 c1 a n1 c
 subst hq
 have dU:=mLt aB aO
 have hw:∀k:Nat,k<=100000->IntKind.i64.wrap ((k:Int)+1)=((k+1:Nat):Int):=λk hk=>by rw[Zam (by omega) (by omega)];rfl
 refine Zax (λaH=>?_) (λbL=>?_)
 ·have aH:(i:Int) < (s.states.length:Int):=aH
  have aS:i < s.states.length:=by omega
  obtain⟨x,hx⟩:=Zcq aS
  have dJ:=hr.all x (zA2 hx)
  have lG:=dJ.len
  unfold few at lG
  obtain⟨b2,o2,ha,iW⟩:=Zan Sta.len (hr.row.mono dU) hx (by omega)
  refine⟨b2,o2,ha,⟨by omega,by omega⟩,_,_,by rw[zA8];exact iW,λb3=>Zaa rfl (Zaa rfl ?_)⟩
  refine⟨λxs _ tks m' q=>∃(k:Nat)(ak:Option Addr)(ck:Nat),k<=x.rules.length/\xs=[.int .i64 (T0s s i+ZbF ((x.rules.take k).map sizeR)),.slice ak k ck,.int .i64 k]/\tks=[.slice ak k ck]/\rowRd m' ak (ZyX s i k)/\q=x.rules.length - k,
   ⟨x.rules.length,0,none,0,by omega,by simp[ZbF],rfl,.inl rfl,rfl⟩,?_⟩
  rintro n a4 n5 c2 n6 a5 n7 c3 m3 q aQ ⟨k,ak,ck,hk,lH,wp,aC,hq⟩
  simp only[List.cons.injEq,Value.int.injEq,Value.slice.injEq,and_true,true_and]at lH wp
  obtain⟨rfl,⟨ea,en,ec⟩,rfl⟩:=lH
  obtain⟨ea',en',ec'⟩:=wp
  subst a5 n7 c3 a4 n5 c2
  subst hq
  have cO:=mLt dU aQ
  refine Zax (λdR=>?_) (λdV=>?_)
  ·have dR:(k:Int) < (x.rules.length:Int):=dR
   obtain⟨r,fX⟩:=Zcq (show k < x.rules.length by omega)
   have iB:=dJ.all r (zA2 fX)
   obtain⟨b4,o4,mK,mP⟩:=Zan Ru.len (dJ.row.mono cO) fX (by omega)
   have zM:=ZDF hr i
   have gT:=Zoj dJ k
   have yu:=Zoj dJ (k+1)
   have cM:=ZeV sizeR fX
   have q8:=Zvt hx k
   have next:∀{M M2:Mem} {b5:Nat} {z:Int} {Q:Option Addr->Nat->Mem->Prop},m3.le M->M.free b5->z=totals s i k->(∀(a':Option Addr)(c':Nat)(m':Mem),M.le m'->rowRd m' a' (ZyX s i (k+1))->Q a' c' m')->
     (Tok.mk (.slice ak k ck) 1=Tok.mk (.slice ak k ck) 1\/Value.slice ak k ck=.slice none 0 0\/ck < k+1)/\∃xs ys:List Value,xs.length=k*1/\ys.length=1*1/\rowRd (M.add b5 [.int .i64 z]) ak xs/\rowRd (M.add b5 [.int .i64 z]) (some ⟨b5,0,none⟩) ys/\(∀u∈ys,u.oneCell'=true)/\
      (k+1)*8<=140737488355328/\k+1<=9223372036854775807/\∀(a':Option Addr)(c':Nat)(m':Mem),(M.add b5 [.int .i64 z]).le m'->rowRd m' a' (xs++ys)->Q a' c' m':=λ{M M2 b5 z Q} hM hf hz hQ=>
    ⟨.inl rfl,ZyX s i k,[.int .i64 z],by rw[Zyn];omega,rfl,aC.mono (mLt hM (Mem.le_add hf _)),.inr ⟨b5,0,rfl,Zay M b5 _⟩,by simp[Value.oneCell'],by omega,by omega,λa' c' m' hm' hr'=>hQ a' c' m' (mLt (Mem.le_add hf _) hm') (by rw[Zvu,<-hz];exact hr')⟩
   refine Zaa rfl ⟨b4,o4,mK,⟨by omega,dR⟩,_,_,_,_,_,_,_,_,_,_,_,_,_,_,_,_,by rw[zA8];exact mP,λb5=>Zaa rfl (Zaa rfl (Zab (λiH=>?_) (λiH b6 hf=>?_)))⟩
   ·have iH:r.k=1:=eq_of_beq (show(r.k == 1)=true from iH)
    have hz:sizeR r=r.t.size:=by unfold sizeR;rw[if_pos iH]
    refine ZaB (Ztj r.t m3 (iB.t.mono cO)) λm4 bN b6 hf=>?_
    have bJ:=ZjN r.t
    rw[Zam (n:=_+r.t.size) (by omega) (by omega)]
    refine next (M2:=m4) bN hf (by rw[q8,cM,hz];omega) λa' c' m' hm' hr'=>⟨rfl,rfl,x.rules.length - (k+1),by omega,k+1,a',c',by omega,?_,rfl,hr',rfl⟩
    rw[hw k (by omega),cM,hz]
    simp only[Int.add_assoc]
   ·have iH:¬r.k=1:=λe=>by
     have:(r.k == 1)=false:=iH
     rw[e]at this;simp at this
    have hz:sizeR r=0:=by unfold sizeR;rw[if_neg iH]
    refine next (M2:=m3) (Mem.le_refl _) hf (by rw[q8,cM,hz];omega) λa' c' m' hm' hr'=>⟨rfl,rfl,x.rules.length - (k+1),by omega,k+1,a',c',by omega,?_,rfl,hr',rfl⟩
    rw[hw k (by omega),cM,hz,Int.add_zero]
  ·have dV:¬(k:Int) < (x.rules.length:Int):=dV
   obtain rfl:k=x.rules.length:=by omega
   intro b3 hf
   have wq:=hT.mono (mLt aQ (Mem.le_add hf [.slice ak x.rules.length ck]))
   refine⟨.inl rfl,vs,[.slice ak x.rules.length ck],by rw[hT.1];omega,rfl,wq.2.1,.inr ⟨b3,0,rfl,Zay m3 b3 _⟩,by simp[Value.oneCell'],by omega,by omega,λa' c' m' hm' hr'=>⟨rfl,s.states.length - (i+1),by omega,i+1,a',c',vs++[.slice ak x.rules.length ck],by omega,?_,rfl,mLt bG (mLt aQ (mLt (Mem.le_add hf _) hm')),⟨by rw[zA1,hT.1];rfl,hr',λj y hj hy=>?_⟩,rfl⟩⟩
   ·rw[hw i (by omega),List.take_length]
    have:T0s s (i+1)=T0s s i+Zvs x:=ZeV Zvs hx
    rw[this];rfl
   ·by_cases iz:j < i
    ·obtain⟨aj,cj,h1,h2⟩:=wq.2.2 j y iz hy
     exact⟨aj,cj,by rw[zA5 (by rw[hT.1];omega)];exact h1,h2.mono hm'⟩
    ·obtain rfl:j=i:=by omega
     obtain rfl:x=y:=by rw[hx]at hy;exact Option.some.inj hy
     exact⟨ak,ck,by rw[zA4 (by rw[hT.1];omega),hT.1];simp,aC.mono (mLt (Mem.le_add hf _) hm')⟩
 ·have bL:¬(i:Int) < (s.states.length:Int):=bL
  obtain rfl:i=s.states.length:=by omega
  exact⟨m2,dU,Mem.le_refl _,A,C,vs,rfl,hT⟩
theorem ZCb{m:Mem}{a:Option Addr}{vs:List Value}(h:rowRd m a vs){k:Nat}{v:Value}(hk:vs[k]?=some v):∃b o,a=some ⟨b,o,none⟩/\m.c b (o+k*1)=some v:=by
 rcases h with h|⟨b,o,ha,h⟩
 ·rw[h]at hk;simp at hk
 ·exact⟨b,o,ha,by rw[Nat.mul_one];exact h k v hk⟩
theorem ZCQ(s:Sc)(ta:Option Addr)(tc:Nat)(vs:List Value)(p:Pl)(m:Mem)(hr:RepC m s)(hT:TotI s s.states.length ta vs m)(hp:ZDT s p):
  CX Tryz.prog 74 #[s.v,.slice ta s.states.length tc,.agg p.cs.toArray] m [] (Ret (.int .i64 (atS s p))):=by
 obtain⟨pv,ps,pr,pa,pp⟩:=p
 dsimp only[ZDT]at hp
 dsimp only[Pl.cs]
 show CX Tryz.prog 74 #[s.v,.slice ta s.states.length tc,.agg #[.int .i64 pv,.int .i64 ps,.int .i64 pr,.int .i64 pa,.int .i64 pp]] m [] _
 apply Zqm
 intro b m1 aB _ b1 m2 aO _
 have hm:=mLt aB aO
 have gS:=hr.vlen
 have eR:=hr.len
 unfold few at gS eR
 rcases hp with⟨i,rfl,v,hv⟩|⟨hv,hp⟩
 ·refine Zmq (decide_eq_true (Int.natCast_nonneg i)) (ZaB (Zqy s i v m2 (hr.mono hm) hv) λm3 aQ=>Zac (mLt hm aQ) ?_)
  show Value.int _ _=Value.int _ _
  unfold atS;rw[if_pos (Int.natCast_nonneg i),zA8,hv]
 have hv:pv < 0:=hv
 refine ZcF (decide_eq_false (by omega)) ?_
 rcases hp with hs|⟨i,rfl,x,hx,hp⟩
 ·have hs:ps < 0:=hs
  refine Zmq (decide_eq_true hs) (ZaB (Zyf s (hr.mono hm)) λm3 aQ=>Zac (mLt hm aQ) ?_)
  show Value.int _ _=Value.int _ _
  unfold atS;rw[if_neg (by show ¬pv ≥ 0;omega),if_pos hs]
 refine ZcF (decide_eq_false (by omega)) ?_
 have q9:=(zA0 hx).1
 have at0:∀q:Pl,q.v=pv->q.s=i->atS s q=if q.r < 0 then Zdt s i x else match x.rules[q.r.toNat]? with
   | none=>0
   | some r=>if q.a < 0 then Zck s r (totals s i q.r.toNat)else match r.acts[q.a.toNat]? with
    | none=>0
    | some a=>if q.p < 0 then ZaW s r a else match a.parts[q.p.toNat]? with
     | none=>0
     | some z=>Zds s r a.parts q.p.toNat z:=λq h1 h2=>by
  unfold atS;rw[h1,h2,if_neg (by omega),if_neg (by omega),zA8,hx]
  rfl
 rcases hp with hs|⟨k,rfl,r,fX,hp⟩
 ·have hs:pr < 0:=hs
  refine Zmq (decide_eq_true hs) (ZaB (Zyg s i x m2 (hr.mono hm) hx) λm3 aQ=>Zac (mLt hm aQ) ?_)
  show Value.int _ _=Value.int _ _
  rw[at0 _ rfl rfl,if_pos hs]
 refine ZcF (decide_eq_false (by omega)) ?_
 have nN:=zA2 hx
 have dJ:=(hr.all x nN).mono hm
 have lG:=dJ.len
 unfold few at lG
 have kH:=(zA0 fX).1
 have sC:=zA2 fX
 have iB:=dJ.all r sC
 have pR:=iB.len
 unfold few at pR
 obtain⟨b2,o2,kX,iW⟩:=Zan Sta.len (hr.row.mono hm) hx (by omega)
 obtain⟨b3,o3,gH,lH⟩:=Zan Ru.len dJ.row fX (by omega)
 have at1:∀q:Pl,q.v=pv->q.s=i->q.r=k->atS s q=if q.a < 0 then Zck s r (totals s i k)else match r.acts[q.a.toNat]? with
    | none=>0
    | some a=>if q.p < 0 then ZaW s r a else match a.parts[q.p.toNat]? with
     | none=>0
     | some z=>Zds s r a.parts q.p.toNat z:=λq h1 h2 h3=>by
  rw[at0 q h1 h2,h3,if_neg (by omega),zA8,fX]
 refine⟨b2,o2,kX,⟨by omega,by omega⟩,_,iW 1 _ rfl,Zaa rfl ⟨b3,o3,gH,⟨by omega,by show(k:Int) < (x.rules.length:Int);omega⟩,_,_,_,_,_,_,_,_,_,_,_,_,_,_,_,_,lH,λb4=>Zaa rfl ?_⟩⟩
 rcases hp with hs|⟨j,rfl,a,kR,hp⟩
 ·have hs:pa < 0:=hs
  refine Zmq (decide_eq_true hs) ?_
  obtain⟨ak,ck,qi,rb⟩:=hT.2.2 i x q9 hx
  obtain⟨b5,o5,mq,ux⟩:=ZCb (hT.2.1.mono hm) qi
  have dI:(ZyX s i x.rules.length)[k]?=some (.int .i64 (totals s i k)):=by
   unfold ZyX;rw[List.getElem?_map,List.getElem?_range kH];rfl
  obtain⟨b6,o6,jA,qT⟩:=ZCb (rb.mono hm) dI
  refine⟨λ_ _ _=>Ret (.int .i64 (Zck s r (totals s i k))),b5,o5,mq,⟨by omega,by omega⟩,_,ux,Zaa rfl ⟨b6,o6,jA,⟨by omega,by show(k:Int) < (x.rules.length:Int);omega⟩,_,qT,_,rfl,ZAC s r (totals s i k) m2 (hr.mono hm) iB,λv _ _ e=>by rw[show v=_ from e];rfl,λn m3 aQ hn M hM _=>Zac (mLt hm hM) ?_⟩⟩
  obtain rfl:n=Zck s r (totals s i k):=by cases hn;rfl
  show Value.int _ _=Value.int _ _
  rw[at1 _ rfl rfl rfl,if_pos hs]
 refine ZcF (decide_eq_false (by omega)) ?_
 have mI:=(zA0 kR).1
 have yv:=zA2 kR
 have lL:=iB.all a yv
 obtain⟨b5,o5,mq,sE⟩:=Zan Ac.len iB.row kR (by omega)
 rcases hp with hs|⟨n,rfl,z,hz⟩
 ·have hs:pp < 0:=hs
  refine Zmq (decide_eq_true hs) ⟨λ_ _ _=>Ret (.int .i64 (ZaW s r a)),Zaa rfl ⟨b5,o5,mq,⟨by omega,by show(j:Int) < (r.acts.length:Int);omega⟩,_,_,_,_,_,_,_,_,sE,_,rfl,Zvr s r a m2 (hr.mono hm) iB lL,λv _ _ e=>by rw[show v=_ from e];rfl,λn m3 aQ hn M hM _=>Zac (mLt hm hM) ?_⟩⟩
  obtain rfl:n=ZaW s r a:=by cases hn;rfl
  show Value.int _ _=Value.int _ _
  have qH:¬(j:Int) < 0:=by omega
  have pQ:r.acts[(j:Int).toNat]?=some a:=by rw[zA8];exact kR
  rw[at1 _ rfl rfl rfl]
  simp only[qH,pQ,hs,if_true,if_false]
 ·refine ZcF (decide_eq_false (by omega)) ⟨λ_ _ _=>Ret (.int .i64 (Zds s r a.parts n z)),Zaa rfl ⟨b5,o5,mq,⟨by omega,by show(j:Int) < (r.acts.length:Int);omega⟩,_,sE 2 _ rfl,_,rfl,ZAE s r a.parts a.pa a.pc n z m2 (hr.mono hm) iB lL.n lL.row lL.all hz,λv _ _ e=>by rw[show v=_ from e];rfl,λn' m3 aQ hn M hM _=>Zac (mLt hm hM) ?_⟩⟩
  obtain rfl:n'=Zds s r a.parts n z:=by cases hn;rfl
  show Value.int _ _=Value.int _ _
  have qH:¬(j:Int) < 0:=by omega
  have pQ:r.acts[(j:Int).toNat]?=some a:=by rw[zA8];exact kR
  have re:¬(n:Int) < 0:=by omega
  have oF:a.parts[(n:Int).toNat]?=some z:=by rw[zA8];exact hz
  rw[at1 _ rfl rfl rfl]
  simp only[qH,pQ,re,oF,if_false]
  rw[zA8]
end Go.Proofs.YtdopppmkbkkmiaaGreatDoor
namespace Go.Proofs.YtdopppmkbkkmiaaGreatDoor
open Go Go.Eng Go.Proofs Go.RowKit
open Go.Value (int slice agg bool string tuple func)
open Go.IntKind (u8 u64 i64)
set_option maxRecDepth 100000
def Zlx:Env:={ EB with
 loops:=swI nLa [(5,⟨[(15,.int .i64)],[],[],false⟩)]
 frzNew:=[1]
 frzAt:=swI [] [(37,[3])]
 thaw:=true
 kF:=true }
theorem Zjq(aA:Int)(aI:Option Addr)(aF aM:Nat)(aG:Option Addr)(aD aN:Nat)(m:Mem)(R:RT)(h:
 lV [int i64 aA,slice aI aF aM,slice aG aD aN] λxL=>fzM m xL λb m'=>lE [some (Box.mk b xL 30 3 true true)] λxL_1=>m.free b->(∀(b' o:Nat)(u:Value),m' b' o=some u->m b' o=some u\/b'
 = b)->Mem.k m b=none->kB pG 39 [agg (.mk xL)] m' λb m'=>br (!b) (rtM m m' R (slice none 0 0)) (∀(b:Nat),lX (Value.map (some b)) λyL=>m'.free b->Mem.k m' b=none->∀b_1,∃I,lE (some (Box.mk b_1 [yL] 154 1
 false true)::xL_1) λxL=>inI I [int i64 0] [] [] (Mem.updK m' b [])/\∀(n:Int)(m':Mem)(n_1:Nat),lV [int i64 (i64.wrap (n+1))] λxL_2=>True->I [int i64 n] [] [] m' n_1->br (decide (n < (↑aD:Int))) (atA
 aG λb o=>Zaf n aD/\∃v v_1:Value,m'.reads b (o+Int.toNat n*2) [v,v_1]/\∀(b:Nat),chk (v.oneCell'&&(v_1.oneCell'&&true)) (∃(b:Nat),∃(es:List (Value×Value)),∃(v_2:Value),∃(o:Bool),yL
 = Value.map (some b)/\Mem.k m' b=some es/\ZqS pG 9 v/\LookIs pG 9 v es (int i64 0) v_2 o/\br (!o) (∃(b:Nat),∃(es:List (Value×Value)),∃(es':List (Value×Value)),yL=Value.map (some b)/\Mem.k m' b=some es
 /\ ZqS pG 9 v/\ZiK pG 9 v (int i64 n) es es'/\Mem.k m b=none/\Zae xL/\nxI n_1 I xL_2 [] [] (Mem.updK m' b es')) (Zae xL/\nxI n_1 I xL_2 [] [] m'))) (∀m'_1,m'.le m'_1->m'_1.reads b_1 0 [yL]->kS pG 79 [slice
 aG aD aN,func (Fn.func 80) (Array.mk []) (Array.mk [Value.pointer (some (Addr.mk b_1 0 none))])] m'_1 λa n c m'=>rtM m m' R (slice a n c)))):CX Tryz.prog 55 #[.agg #[.int .i64 aA,.slice aI aF aM,.slice aG aD aN]] m [] R:=
 Zad (E:=Zlx) Zal mix Tryz.func55 (by kernel_rfl) (Eq.mp (by kernel_rfl) h)
def Zh7:Env:={ EB with
 loops:=swI nLa [(3,⟨[(4,.slice),(12,.int .i64)],[],[(32,1)],false⟩)]
 joins:=swI none [(6,some [(28,.bool)])]
 tokOf:=swI 0 [(32,32)]
 frzNew:=[2]
 thaw:=true
 lentC:=swI none [(35,some [(32,1)]),(37,some [(32,1)])] }
theorem ZgQ(aA:ByteArray)(aI:Option Addr)(aF aM c0b c0o:Nat)(m:Mem)(R:RT)(h:
 lV [string aA,slice aI aF aM] λxL=>fzM m xL λb m'=>lE [some (Box.mk b xL 34 2 true true)] λxL=>m.free b->(∀(b' o:Nat)(u:Value),m' b' o=some u->m b' o=some u\/b'=b)->∃I,inI I [slice
 none 0 0,int i64 0] [] [slice none 0 0] m'/\∀a (n:Nat) c (af:Int) a3 a4 a5 (m':Mem) (ai:Nat),lX (slice a3 a4 a5) λyL=>lE (Tok.mk yL 1) λag=>lE [some ag] λah=>lV [int i64 (i64.wrap (af+1))] λak=>lE
 (n+1) λac=>lX (slice a n c) λad=>True->I [ad,int i64 af] [] [yL] m' ai->br (decide (af < (↑aF:Int))) (atA aI λb o=>Zaf af aF/\∃v al am an ao ap aq ar au av aw ax ay az ae a0:Value,lV [v,al,
 am,an,ao,ap,aq,ar,au,av,aw,ax,ay,az,ae,a0] λa1=>m'.reads b (o+Int.toNat af*16) a1/\∀b,lE (some (Box.mk b a1 45 16 false true)::xL) λa2=>chk (v.oneCell'&&(al.oneCell'&&(am.oneCell' &&
 (an.oneCell'&&(ao.oneCell'&&(ap.oneCell'&&(aq.oneCell'&&(ar.oneCell'&&(au.oneCell'&&(av.oneCell'&&(aw.oneCell'&&(ax.oneCell'&&(ay.oneCell'&&(az.oneCell'&&(ae.oneCell'&&(a0.oneCell'&&true))))))))))))))))
 (∃(v:Value),m' c0b c0o=some v/\∃(b:Nat),∃(es:List (Value×Value)),∃(aj:Value),∃(o:Bool),lV (List.append (Array.toList (Value.cells aj)) []) λa6=>v=Value.map (some b)/\Mem.k m' b=some es/\ZqS pG
 9 ae/\LookIs pG 9 ae es (int i64 0) aj o/\∃(b:Bool),br o (chk (Zfe ae&&true) (Zae a2/\ah=ah/\[bool !ByteArray.toList (Zb8 ae) == ByteArray.toList bE0]=[bool b])) (Zae a2/\ah=ah/\[bool false]=[bool b])
 /\ br b (chk (Nat.beq (List.length (Array.toList (Value.cells aj))) 1&&true) (∀b,lM (m'.add b a6) λmL=>m'.free b->(ag=Tok.mk ad 1\/ad=slice none 0 0\/c < ac)/\∃(xs:List Value),∃(ys:List Value),xs.length=n
 * 1/\ys.length=1*1/\rowRd mL a xs/\rowRd mL (some (Addr.mk b 0 none)) ys/\(∀(u:Value),u∈ys->u.oneCell'=true)/\ac*8<=140737488355328/\ac<=9223372036854775807/\∀(a':Option Addr)(c':Nat) m',mL.le m'->
 rowRd m' a' (List.append xs ys)->TokFact mL a a' ac c'->Zae xL/\nxI ai I (slice a' ac c'::ak) [] [slice a' ac c'] m')) (Zae xL/\nxI ai I (ad::ak) [] [yL] m'))) (∃(Y:Nat->Prop),∃(R_1:Value->Mem->List (List
 Value)->List Value->Prop),CXY pG 81 (.mk [ad]) m' Y [] [ag] R_1/\(∀(t:Tok),t∈[ag]->∀(b:Nat),Tok.blk t=some b->Y b)/\(∀(aa:Nat),Y aa->(∃(t:Tok),t∈[ag]/\Tok.blk t=some aa)\/(m.free aa/\Mem.k m aa =
 none)/\((∃(o:Nat),∃(v:Value),m' aa o=some v)\/∃(e:List (Value×Value)),Mem.k m' aa=some e)/\b≠aa/\True)/\(∀(v:Value)(m':Mem) (css:List (List Value)) (tvs:List Value),R_1 v m' css tvs->Shape.fits
 (.tup []) v=true)/\∀(ab:Mem),Mem.le (Mem.off m' Y) ab->(NewM m' ab λb=>Y b\/m'.free b)->∀a c d,lE [Tok.mk (slice a c d) 1] λxL=>R_1 (tuple (.mk [])) ab [] [slice a c d]->∃(Y:Nat->Prop),∃(R_2:Value->
 Mem->List (List Value)->List Value->Prop),CXY pG 82 (.mk [ad]) ab Y [] xL R_2/\(∀(t:Tok),t∈xL->∀(b:Nat),Tok.blk t=some b->Y b)/\(∀(aa:Nat),Y aa->(∃(t:Tok),t∈xL/\Tok.blk t=some aa)\/(m.free aa/\
 Mem.k m aa=none)/\((∃(o:Nat),∃(v:Value),ab aa o=some v)\/∃(e:List (Value×Value)),Mem.k ab aa=some e)/\b≠aa/\True)/\(∀(v:Value)(m':Mem) (css:List (List Value)) (tvs:List Value),R_2 v m' css tvs
 -> Shape.fits .slice v=true)/\∀a n c (m':Mem),Mem.le (Mem.off ab Y) m'->(NewM ab m' λb=>Y b\/ab.free b)->∀a7 a8 d,R_2 (slice a n c) m' [] [slice a7 a8 d]->rtM m m' R (slice a n c))):CX Tryz.prog 80 #[.agg #[.string aA,.slice aI aF aM],.pointer (some ⟨c0b,c0o,none⟩)] m [] R:=
 Zad (E:=Zh7) Zal mix Tryz.func80 (by kernel_rfl) (Eq.mp (by kernel_rfl) h)
def Zc8:Env:={ EB with
 loops:=swI nLa [(3,⟨[(5,.slice),(10,.int .i64)],[],[(19,1)],false⟩)]
 tokOf:=swI 0 [(19,19)]
 thaw:=true }
theorem ZcO(p0a:Option Addr)(p0n p0c p1g:Nat)(p1fi p1ca:List Value)(m:Mem)(R:RT)(h:
 ∃I,inI I [slice none 0 0,int i64 0] [] [slice none 0 0] m/\∀a n c n_1 a_1 n_2 c_1 (m':Mem) (n_3:Nat),lX (slice a n c) λyL=>lE (n+1) λyL_1=>True->I [yL,int i64 n_1] [] [slice a_1 n_2 c_1] m' n_3->br (decide
 (n_1 < (↑p0n:Int))) (atA p0a λb o=>Zaf n_1 p0n/\∃v v_1:Value,m'.reads b (o+Int.toNat n_1*2) [v,v_1]/\∀(b:Nat),chk (v.oneCell'&&(v_1.oneCell'&&true)) (kS pG p1g (List.append (List.append p1fi [agg (.mk
 [v,v_1])]) p1ca) m' λa_4 n_4 c_2 m'=>∀b,lM (m'.add b [slice a_4 n_4 c_2]) λmL=>m'.free b->(Tok.mk (slice a_1 n_2 c_1) 1=Tok.mk yL 1\/yL=slice none 0 0\/c < yL_1)/\∃(xs:List Value),∃(ys:List Value),
 xs.length=n*1/\ys.length=1*1/\rowRd mL a xs/\rowRd mL (some (Addr.mk b 0 none)) ys/\(∀(u:Value),u∈ys->u.oneCell'=true)/\yL_1*24<=140737488355328/\yL_1<=9223372036854775807/\∀(a':Option Addr) (c':
 Nat) m',mL.le m'->rowRd m' a' (List.append xs ys)->TokFact mL a a' yL_1 c'->nxI n_3 I [slice a' yL_1 c',int i64 (i64.wrap (n_1+1))] [] [slice a' yL_1 c'] m')) (rtM m m' R yL)):CX Tryz.prog 79 #[.slice p0a p0n p0c,.func (.func p1g) p1fi.toArray p1ca.toArray] m [] R:=
 Zad (E:=Zc8) Zal mix Tryz.func79 (by kernel_rfl) (Eq.mp (by kernel_rfl) h)
end Go.Proofs.YtdopppmkbkkmiaaGreatDoor
namespace Go.Proofs.YtdopppmkbkkmiaaGreatDoor
open Go Go.Eng Go.Rx Go.Proofs Go.RowKit
set_option maxRecDepth 100000
def iC(z:Int):List Value:=[.int .i64 z]
theorem ZCc(z:Int):(iC z).length=1:=rfl
theorem ZCd(z:Int):∀u∈iC z,u.oneCell'=true:=λu hu=>by
 obtain rfl:u=.int .i64 z:=by simpa[iC]using hu
 rfl
theorem ZtC:∀l:List Int,(l.map iC).flatten=ZcX l
 | []=>rfl
 | z::l=>by
  have:=ZtC l
  simp only[List.map_cons,List.flatten_cons,this];rfl
theorem ZDG(a b:ByteArray):(a == b)=decide (a=b):=by
 rw[Bool.eq_iff_iff,decide_eq_true_eq]
 cases a with|mk x=>cases b with|mk y=>
 show(x == y)=true↔_
 rw[beq_iff_eq,ByteArray.mk.injEq]
theorem Zyo(a b:ByteArray):EqIs Tryz.prog 9 (.string a) (.string b) (decide (a=b)):=by
 rw[<-ZDG]
 exact Zsp Tryz.underlying9 (by simp[Instr.sameNow]) (λop ox oy w=>by cases op <;> simp[eqGuard])
abbrev gN(k:Nat):Value:=.int .i64 k
def ZyU(m:Mem)(bm:Nat)(L:List Sta)(i:Nat):Prop:=m.k bm=some (ZBs Value.string gN (Zdj L i))
theorem ZqA{m:Mem}{bm:Nat}{L:List Sta}{i:Nat}(hm:ZyU m bm L i)(n:ByteArray):∃r:Option Nat,LookIs Tryz.prog 9 (.string n) (ZBs Value.string gN (Zdj L i)) (.int .i64 0) ((r.map gN).getD (.int .i64 0)) r.isSome/\(∀k,r=some k->(n,k)∈Zdj L i)/\(r=none->n ∉ (Zdj L i).map (·.1)):=by
 by_cases h:n∈(Zdj L i).map (·.1)
 ·obtain⟨q,hq,ia⟩:=List.mem_map.1 h
  obtain⟨n',k⟩:=q
  obtain rfl:n'=n:=ia
  exact⟨some k,⟨some (gN k),Zwn Zyo n' k _ hq (Zmm L i),rfl,rfl⟩,(λk' e=>by cases e;exact hq),λe=>by cases e⟩
 ·exact⟨none,⟨none,Zob Zyo n _ h,rfl,rfl⟩,(λk' e=>by cases e),λ_=>h⟩
theorem Zyp{L:List Sta}{n:ByteArray}{r:Option Nat}(h1:∀k,r=some k->(n,k)∈Zdj L L.length)(h2:r=none->n ∉ (Zdj L L.length).map (·.1)):goI L n=r:=by
 cases r with
 | some k=>exact Zoc.2 (h1 k rfl)
 | none=>
  cases e:goI L n with
  | none=>rfl
  | some k=>exact absurd (List.mem_map.2 ⟨_,Zoc.1 e,rfl⟩) (h2 rfl)
structure Il where
 a:Option Addr
 c:Nat
 l:List Int
def Il.cs(y:Il):List Value:=[.slice y.a y.l.length y.c]
theorem Il.len(y:Il):y.cs.length=1:=rfl
theorem Il.one(y:Il):∀u∈y.cs,u.oneCell'=true:=λu hu=>by
 obtain rfl:u=_:=by simpa[Il.cs]using hu
 rfl
def QT(L:List Sta)(x:Sta)(y:Il)(μ:Mem):Prop:=y.l=ZC4 L x/\rowRd μ y.a (ZcX y.l)
def TgI(L:List Sta)(m:Mem)(x:Sta):Value->Mem->List (List Value)->Prop:=λv m' _=>∃y:Il,v=.slice y.a y.l.length y.c/\QT L x y (nw m m')
theorem ZqB(L:List Sta)(x:Sta)(m:Mem)(c0b bm:Nat)(hx:RepS m x)(hc:m.reads c0b 0 [.map (some bm)])(hk:ZyU m bm L L.length):
  CX Tryz.prog 80 #[.agg x.cs.toArray,.pointer (some ⟨c0b,0,none⟩)] m [] (TgI L m x):=by
 have jh:x.rules.length<=100000:=hx.len
 apply ZgQ (c0b:=c0b) (c0o:=0)
 intro b m1 aB kU iu uC
 refine⟨λxs css tvs mm q=>∃(i:Nat)(a:Option Addr)(c:Nat),i<=x.rules.length/\xs=[.slice a (Zod L (x.rules.take i)).length c,.int .i64 i]/\tvs=[.slice a (Zod L (x.rules.take i)).length c]/\m1.le mm/\rowRd mm a (ZcX (Zod L (x.rules.take i)))/\(∀b',Yi (.slice a (Zod L (x.rules.take i)).length c) b'->m1.free b'/\m1.k b'=none)/\q=x.rules.length - i,⟨_,0,none,0,by omega,rfl,rfl,Mem.le_refl _,.inl rfl,(λb' h=>by simp[Yi,Tok.blk]at h),rfl⟩,?_⟩
 rintro a n c z a2 n2 c2 mm q _ ⟨i,a',c',hi,cN,dF,hM,aC,cA,rfl⟩
 simp only[List.cons.injEq,Value.slice.injEq,Value.int.injEq,true_and,and_true]at cN dF
 obtain⟨⟨rfl,rfl,rfl⟩,rfl⟩:=cN
 obtain⟨rfl,rfl,rfl⟩:=dF
 have aP:=ZzP L (x.rules.take i)
 rw[List.length_take]at aP
 have kV:IntKind.i64.wrap ((i:Int)+1)=((i+1:Nat):Int):=by rw[Zam (by omega) (by omega)];rfl
 have j1:=mLt aB hM
 refine Zax (λaH=>?_) (λbL=>?_)
 ·have aH:(i:Int) < (x.rules.length:Nat):=aH
  obtain⟨r,hr⟩:=Zcq (show i < x.rules.length by omega)
  obtain⟨b2,o2,kX,lN⟩:=Zan Ru.len (hx.mono j1).row hr (by omega)
  have cM:=Zxr (L:=L) hr
  obtain⟨ro,uD,iP,jS⟩:=ZqA (m:=m) hk r.go
  have pW:=Zyp iP jS
  refine⟨b2,o2,kX,⟨by omega,aH⟩,_,_,_,_,_,_,_,_,_,_,_,_,_,_,_,_,lN,λb3=>Zaa rfl ⟨_,(hc.mono j1) 0 _ rfl,bm,_,_,_,rfl,j1.k _ _ hk,Zj8 Tryz.underlying9 _,uD,?_⟩⟩
  have og:ZyR L r=none->nxI (x.rules.length - i) (λxs css tvs mm q=>∃(i:Nat)(a:Option Addr)(c:Nat),i<=x.rules.length/\xs=[.slice a (Zod L (x.rules.take i)).length c,.int .i64 i]/\tvs=[.slice a (Zod L (x.rules.take i)).length c]/\m1.le mm/\rowRd mm a (ZcX (Zod L (x.rules.take i)))/\(∀b',Yi (.slice a (Zod L (x.rules.take i)).length c) b'->m1.free b'/\m1.k b'=none)/\q=x.rules.length - i) [.slice a2 (Zod L (x.rules.take i)).length c2,.int .i64 (IntKind.i64.wrap ((i:Int)+1))] [] [.slice a2 (Zod L (x.rules.take i)).length c2] mm:=λhe=>by
   rw[he,Option.toList_none,List.append_nil]at cM
   exact⟨x.rules.length - (i+1),by omega,i+1,a2,c2,by omega,by rw[kV,cM],by rw[cM],hM,by rw[cM];exact aC,by rw[cM];exact cA,rfl⟩
  cases ro with
  | none=>
   have ht:ZyR L r=none:=by unfold ZyR;rw[pW];split <;> rfl
   exact⟨false,ZcF rfl ⟨rfl,rfl,rfl⟩,ZcF rfl ⟨rfl,og ht⟩⟩
  | some k=>
   by_cases hz:r.go.size=0
   ·have ht:ZyR L r=none:=by unfold ZyR;rw[if_pos hz]
    refine⟨false,Zmq rfl (Zaa rfl ⟨rfl,rfl,?_⟩),ZcF rfl ⟨rfl,og ht⟩⟩
    show[Value.bool (!(r.go.toList == ByteArray.toList ⟨#[]⟩))]=_
    rw[Zb1,hz];rfl
   ·have ht:ZyR L r=some (k:Int):=by unfold ZyR;rw[if_neg hz,pW];rfl
    have kH:=ZBU pW
    refine⟨true,Zmq rfl (Zaa rfl ⟨rfl,rfl,?_⟩),Zmq rfl (Zaa rfl λb4 gU=>?_)⟩
    ·show[Value.bool (!(r.go.toList == ByteArray.toList ⟨#[]⟩))]=_
     rw[Zb1,show(r.go.size == 0)=false by simpa using hz];rfl
    rw[ht,Option.toList_some]at cM
    refine ZcU ZCc ZCd (ts:=Zod L (x.rules.take i)) gU (k:Int) (by rw[ZtC];exact aC) 8 (by omega) (by omega) (.inl rfl) λa5 c5 m5 cE bZ jO=>?_
    have uE:=mLt (Mem.le_add gU _) cE
    refine⟨rfl,x.rules.length - (i+1),by omega,i+1,a5,c5,by omega,by rw[kV,cM,zA1];rfl,by rw[cM,zA1];rfl,mLt hM uE,by rw[cM,<-ZtC];exact bZ,λb' hb'=>?_,rfl⟩
    rcases jO.2 with h|⟨bb,oo,ha',h⟩
    ·rw[h]at hb';simp[Yi,Tok.blk]at hb'
    ·subst ha'
     obtain rfl:bb=b':=by simpa[Yi,Tok.blk]using hb'
     rcases h with h|⟨_,h2,h3⟩
     ·exact cA _ (by rw[h];simp[Yi,Tok.blk])
     ·have wt:=mLt hM (Mem.le_add gU (iC k))
      exact⟨Zbd wt h2,Zd0 wt h3⟩
 ·have bL:¬(i:Int) < (x.rules.length:Nat):=bL
  have hi:i=x.rules.length:=by omega
  subst hi
  rw[List.take_length]at aC cA aP ⊢
  have eR:=ZkH (Zod L x.rules)
  have uF:∀b',Yi (.slice a2 (Zod L x.rules).length c2) b'->m.free b'/\m.k b'=none:=λb' h=>⟨Zbd aB (cA b' h).1,Zd0 aB (cA b' h).2⟩
  refine⟨_,_,Zno (Zod L x.rules) a2 c2 mm aC (by omega),(λt ht bb iA=>by
   obtain rfl:t=_:=by simpa using ht
   exact iA),(λbb iA=>.inl ⟨_,by simp,iA⟩),(λv _ _ _ h=>by rw[h.1];rfl),?_⟩
  rintro m2 aO _ a3 c3 d3 ⟨_,_,dF,dD⟩
  simp only[List.cons.injEq,Value.slice.injEq,and_true]at dF
  obtain⟨rfl,rfl,rfl⟩:=dF
  have wu:=ZhE (ZpK (Zod L x.rules)) a3 d3 m2 dD (by omega)
  rw[eR]at wu
  refine⟨_,_,wu,(λt ht bb iA=>by
   obtain rfl:t=_:=by simpa using ht
   exact iA),(λbb iA=>.inl ⟨_,by simp,iA⟩),(λv _ _ _ h=>by rw[h.1];rfl),?_⟩
  rintro a4 n4 c4 m3 aQ _ a6 c6 d6 ⟨hv,_,_,lO⟩
  simp only[Value.slice.injEq]at hv
  obtain⟨rfl,rfl,rfl⟩:=hv
  have gE:m.le m2:=mLt (Zho j1 uF) aO
  have jf:m.le m3:=mLt (Zho gE uF) aQ
  refine ZaD jf ⟨⟨a4,c4,ZC4 L x⟩,rfl,rfl,ZkD ?_ ?_⟩
  ·rcases lO with h|⟨b5,o5,mq,h⟩
   ·refine .inl ?_
    unfold ZcX at h ⊢
    rw[List.map_append]at h
    exact(List.append_eq_nil_iff.1 h).1
   ·refine .inr ⟨b5,o5,mq,λj v hj=>h j v ?_⟩
    have hj:(ZcX (Go.Lib.compact (ZpK (Zod L x.rules))))[j]?=some v:=hj
    unfold ZcX at hj ⊢
    rw[List.map_append,zA5 (zA0 hj).1]
    exact hj
  ·refine .inr λb o e=>(uF b ?_).1
   have e:a4=some ⟨b,o,none⟩:=e
   rw[e];simp[Yi,Tok.blk]
theorem Zyq(cb:Nat)(ca:List Value)(Q:Sta->Il->Mem->Prop)(L:List Sta)(a:Option Addr)(d:Nat)(m:Mem)(aC:rowRd m a (L.map Sta.cs).flatten)(hl:L.length<=few)(mT:∀x∈L,∀m2,m.le m2->CX Tryz.prog cb (Array.mk (.agg x.cs.toArray::ca)) m2 [] (λv m3 _=>∃y:Il,v=.slice y.a y.l.length y.c/\Q x y (nw m2 m3))):
  CX Tryz.prog 79 #[.slice a L.length d,.func (.func cb) #[] (Array.mk ca)] m [] (ZsZ Il.cs Q m L):=by
 have hl:L.length<=100000:=hl
 apply ZcO (p1fi:=[]) (p1ca:=ca)
 refine⟨λxs css tvs m' q=>∃(k:Nat)(a':Option Addr)(c':Nat)(L':List Il)(μ:Nat->Mem),k<=L.length/\q=L.length - k/\xs=[.slice a' L'.length c',.int .i64 k]/\tvs=[.slice a' L'.length c']/\Each Il.cs Q m m' (L.take k) a' c' L' μ,⟨_,0,none,0,[],_,by omega,rfl,rfl,rfl,Each.nil m⟩,?_⟩
 rintro a1 n1 c1 z a2 n2 c2 m2 q _ ⟨k,a',c',L',μ,hk,hq,cN,dF,hE⟩
 simp only[List.cons.injEq,Value.slice.injEq,Value.int.injEq,true_and,and_true]at cN dF
 obtain⟨⟨rfl,rfl,rfl⟩,rfl⟩:=cN
 obtain⟨rfl,rfl,rfl⟩:=dF
 have kw:L'.length=k:=by rw[hE.len,List.length_take];omega
 refine Zab (λaH=>?_) (λbL=>?_)
 ·have aS:k < L.length:=by have:=zA6 aH;omega
  obtain⟨x,hx⟩:=ZaM aS
  obtain⟨b,o,ha,cC⟩:=Zan Sta.len aC hx (by omega)
  have hw:IntKind.i64.wrap ((k:Int)+1)=((k+1:Nat):Int):=by rw[Zam (by omega) (by omega)];rfl
  refine⟨b,o,ha,⟨by omega,by omega⟩,_,_,cC.mono hE.le,λb3=>Zaa rfl ⟨_,trivial,mT x (zA2 hx) m2 hE.le,(λv _ _ ⟨y,h,_⟩=>by rw[h];rfl),?_⟩⟩
  rintro ya yn yc m3 aQ ⟨y,hv,hQ⟩ b4 gU
  simp only[Value.slice.injEq]at hv
  obtain⟨rfl,rfl,rfl⟩:=hv
  refine ZcU Il.len Il.one gU y (hE.row.mono aQ) 24 (by omega) (by omega) (.inl rfl) λa5 c5 m5 cE bZ bB=>?_
  have cM:=hE.step Il.len (by omega) hx aQ hQ gU cE bZ bB
  exact⟨L.length - (k+1),by omega,k+1,a5,c5,L'++[y],_,by omega,rfl,by rw[hw,zA1];rfl,by rw[zA1];rfl,cM⟩
 ·have dI:k=L.length:=by have:=of_decide_eq_false bL;omega
  rw[dI,List.take_length]at hE
  exact⟨m2,hE.le,Mem.le_refl _,_,_,L',μ,rfl,hE⟩
def TgR(s:Sc):Value->Mem->List (List Value)->Prop:=λv m' _=>∃(a:Option Addr)(c:Nat)(L':List Il),v=.slice a L'.length c/\L'.map Il.l=(if s.light then s.states.map (ZC4 s.states)else[])/\rowRd m' a (L'.map Il.cs).flatten/\∀y∈L',rowRd m' y.a (ZcX y.l)
theorem Zyr{s}:∀(v:Value)(m':Mem) (css:List (List Value)),TgR s v m' css->Shape.fits .slice v=true:=λv _ _ ⟨_,_,_,h,_⟩=>by rw[h];rfl
theorem Zr7(s:Sc)(m:Mem)(hr:RepC m s):CX Tryz.prog 55 #[s.v] m [] (TgR s):=by
 have eR:s.states.length<=100000:=hr.len
 apply Zjq
 intro b m1 aB _ iu _ _
 refine Zah (Zcw s m1 (hr.mono aB)) λm2 aO=>Zab (λh=>Zac (mLt aB aO) ?_) (λh=>?_)
 ·have hl:s.light=false:=by simpa using h
  exact⟨none,0,[],rfl,by rw[hl];rfl,.inl rfl,λy hy=>by cases hy⟩
 have hl:s.light=true:=by simpa using h
 have dU:=mLt aB aO
 intro bm hf hk b1
 have jo:m.k bm=none:=Zd0 dU hk
 refine⟨λxs _ _ mm q=>∃i:Nat,i<=s.states.length/\xs=[.int .i64 i]/\m2.le mm/\ZyU mm bm s.states i/\q=s.states.length - i,⟨_,0,by omega,rfl,Mem.le_updK (Mem.le_refl _) hk _,Mem.updK_same _ _ _,rfl⟩,?_⟩
 rintro z mm q _ ⟨i,hi,hz,hM,hE,rfl⟩
 obtain rfl:z=i:=by simpa using hz
 have kV:IntKind.i64.wrap ((i:Int)+1)=((i+1:Nat):Int):=by rw[Zam (by omega) (by omega)];rfl
 have j1:=mLt dU hM
 refine Zax (λaH=>?_) (λbL=>?_)
 ·have aH:(i:Int) < (s.states.length:Nat):=aH
  obtain⟨x,hx⟩:=Zcq (show i < s.states.length by omega)
  obtain⟨b2,o2,kX,lN⟩:=Zan Sta.len (hr.mono j1).row hx (by omega)
  obtain⟨ro,uD,iP,jS⟩:=ZqA hE x.s
  have cM:=ZuP hx
  refine⟨b2,o2,kX,⟨by omega,aH⟩,_,_,lN,λb3=>Zaa rfl ⟨bm,_,_,_,rfl,hE,Zj8 Tryz.underlying9 _,uD,?_⟩⟩
  cases ro with
  | some k=>
   have eG:ZBT (Zdj s.states i) x.s=true:=Zgj.2 (List.mem_map.2 ⟨_,iP k rfl,rfl⟩)
   rw[if_pos eG]at cM
   exact ZcF rfl ⟨rfl,s.states.length - (i+1),by omega,i+1,by omega,by rw[kV],hM,by unfold ZyU;rw[cM];exact hE,rfl⟩
  | none=>
   have iM:=jS rfl
   have eG:ZBT (Zdj s.states i) x.s=false:=by
    cases e:ZBT (Zdj s.states i) x.s with
    | false=>rfl
    | true=>exact absurd (Zgj.1 e) iM
   rw[eG,if_neg (by decide)]at cM
   exact Zmq rfl ⟨bm,_,_,rfl,hE,Zj8 Tryz.underlying9 _,Zs6 (g:=gN) Zyo x.s i _ iM,jo,rfl,s.states.length - (i+1),by omega,i+1,by omega,by rw[kV],Mem.le_updK hM hk _,by unfold ZyU;rw[cM];exact Mem.updK_same _ _ _,rfl⟩
 ·have bL:¬(i:Int) < (s.states.length:Nat):=bL
  have hi:i=s.states.length:=by omega
  subst hi
  intro m3 aQ pu
  have cO:=mLt j1 aQ
  have jJ:=hr.mono cO
  refine Zaj (Zyq 80 _ (QT s.states) s.states s.sa s.sc m3 jJ.row hr.len λx hx m4 bN=>?_) ZfA ?_
  ·exact ZqB s.states x m4 b1 bm ((jJ.all x hx).mono bN) (pu.mono bN) (bN.k _ _ (aQ.k _ _ hE))
  ·rintro a n c m5 cE ⟨a',c',L',μ,hv,uG⟩
   simp only[Value.slice.injEq]at hv
   obtain⟨rfl,rfl,rfl⟩:=hv
   refine ZaD (mLt cO cE) ⟨_,_,L',rfl,?_,uG.row,λy hy=>?_⟩
   ·rw[hl,if_pos rfl]
    exact uG.same λx y μ hq=>hq.1
   ·obtain⟨i,x,_,_,hq,hs⟩:=uG.at hy
    exact hq.2.mono (mLt hs (ZdF _ _))
end Go.Proofs.YtdopppmkbkkmiaaGreatDoor
namespace Go.Proofs.YtdopppmkbkkmiaaGreatDoor
open Go Go.Eng Go.Proofs Go.RowKit
open Go.Value (int slice agg bool string tuple func)
open Go.IntKind (u8 u64 i64)
set_option maxRecDepth 100000
def Zdw:Env:={ EB with
 loops:=swI nLa [(2,⟨[(8,.int .i64)],[],[],false⟩)] }
theorem Zdo(p0a:Option Addr)(p0n p0c:Nat)(p1:Int)(m:Mem)(R:RT)(h:
 ∃I,inI I [int i64 0] [] [] m/\∀n m' (n_1:Nat),m.le m'->I [int i64 n] [] [] m' n_1->br (decide (n < (↑p0n:Int))) (atA p0a λb o=>Zaf n p0n/\∃(v:Value),m' b (o+Int.toNat n*1)=some v/\chk (ZaS i64 v)
 (br (p1 == RowKit.intOf v) (rtM m m' R (int i64 n)) (nxI n_1 I [int i64 (i64.wrap (n+1))] [] [] m'))) (rtM m m' R (int i64 (-1)))):CX Tryz.prog 83 #[.slice p0a p0n p0c,.int .i64 p1] m [] R:=
 Zad (E:=Zdw) Zal mix Tryz.func83 (by kernel_rfl) (Eq.mp (by kernel_rfl) h)
def ZcP:Env:=EB
theorem ZcI(p0a:Option Addr)(p0n p0c:Nat)(p1:Int)(m:Mem)(R:RT)(h:
 kI pG 83 [slice p0a p0n p0c,int i64 p1] m λn m'=>rtM m m' R (bool (decide (n ≥ 0)))):CX Tryz.prog 56 #[.slice p0a p0n p0c,.int .i64 p1] m [] R:=
 Zad (E:=ZcP) Zal mix Tryz.func56 (by kernel_rfl) (Eq.mp (by kernel_rfl) h)
def Zh8:Env:={ EB with
 loops:=swI nLa [(4,⟨[(4,.slice),(5,.int .i64)],[],[(43,1)],false⟩),(8,⟨[(4,.slice),(32,.int .i64)],[],[(43,1)],false⟩)]
 tokOf:=swI 0 [(43,43)]
 frzNew:=[1] }
theorem ZgR(aA:Int)(aI:Option Addr)(aF aM:Nat)(aG:Option Addr)(aD aN:Nat)(m:Mem)(R:RT)(h:
 lV [int i64 aA,slice aI aF aM,slice aG aD aN] λxL=>fzM m xL λb m'=>lE [some (Box.mk b xL 30 3 true true)] λxL_1=>kS pG 55 [agg (.mk xL)] m' λa n c m'=>∀b,lM (m'.add b [int i64 0]) λmL
 => lE (some (Box.mk b [int i64 0] 3 1 true true)::xL_1) λxL=>m'.free b->∃I,inI I [slice (some (Addr.mk b 0 none)) 1 1,int i64 0] [] [slice none 0 0] mL/\∀a_2 n_1 c n_2 a_3 n_3 c_1 m' (n_4:Nat),lX (slice a_2 n_1 c)
 λyL=>mL.le m'->I [yL,int i64 n_2] [] [slice a_3 n_3 c_1] m' n_4->br (decide (n_2 < (↑n_1:Int))) (atA a_2 λb o=>Zaf n_2 n_1/\∃(v:Value),m' b (o+Int.toNat n_2*1)=some v/\chk (ZaS i64 v&&decide (i64
 = i64)) (br (decide (RowKit.intOf v ≥ (↑n:Int))) (rtM m m' R yL) (atA a_2 λb o=>Zaf n_2 n_1/\∃(v:Value),m' b (o+Int.toNat n_2*1)=some v/\chk (Zb7 v) (atA a λb o=>Zaf (RowKit.intOf v) n/\∃(v_1
 : Value),m' b (o+Int.toNat (RowKit.intOf v)*1)=some v_1/\chk (Za5 v_1) (∃I_1,inI I_1 [yL,int i64 0] [] [slice a_3 n_3 c_1] m'/\∀a (n:Nat) c (n_5:Int) a_6 n_6 c_2 m'_1 (n_7:Nat),lV [int i64 (i64.wrap (n_5 +
 1))] λxL_2=>lX (slice a_6 n_6 c_2) λyL=>lE (n+1) λyL_1=>lX (slice a n c) λyL_2=>m'.le m'_1->I_1 [yL_2,int i64 n_5] [] [yL] m'_1 n_7->br (decide (n_5 < (↑(slN v_1):Int))) (chk (Za5 v_1) (atA (slA v_1)
 λb o=>Zaf n_5 (slN v_1)/\∃(v:Value),lV (List.append (Array.toList (Value.cells v)) []) λxL_3=>m'_1 b (o+Int.toNat n_5*1)=some v/\kB pG 56 [yL_2,v] m'_1 λb m'=>br (!b) (chk (Nat.beq (List.length
 (Array.toList (Value.cells v))) 1&&true) (∀b,lM (m'.add b xL_3) λmL=>m'.free b->(Tok.mk yL 1=Tok.mk yL_2 1\/yL_2=slice none 0 0\/c < yL_1)/\∃(xs:List Value),∃(ys:List Value),xs.length=n*1/\ys.length =
 1*1/\rowRd mL a xs/\rowRd mL (some (Addr.mk b 0 none)) ys/\(∀(u:Value),u∈ys->u.oneCell'=true)/\yL_1*8<=140737488355328/\yL_1<=9223372036854775807/\∀(a':Option Addr) c' m',mL.le m'->rowRd m' a'
 (List.append xs ys)->Zae xL/\([none]:List (Option Tok))=[none]/\nxI n_7 I_1 (slice a' yL_1 c'::xL_2) [] [slice a' yL_1 c'] m')) (Zae xL/\([none]:List (Option Tok))=[none]/\nxI n_7 I_1 (yL_2::xL_2) [] [yL]
 m'))) (Zae xL/\nxI n_4 I [yL_2,int i64 (i64.wrap (n_2+1))] [] [yL] m'_1)))))) (rtM m m' R yL)):CX Tryz.prog 26 #[.agg #[.int .i64 aA,.slice aI aF aM,.slice aG aD aN]] m [] R:=
 Zad (E:=Zh8) Zal mix Tryz.func26 (by kernel_rfl) (Eq.mp (by kernel_rfl) h)
def Zjr:Env:={ EB with
 loops:=swI nLa [(3,⟨[(20,.int .i64)],[],[],false⟩)]
 joins:=swI none [(22,some [(104,.bool)])]
 frzNew:=[3]
 gb:=true
 cuts:=swI none [(19,some ⟨[(10,.int .i64)],[9],[],false⟩)] }
theorem Zh9(aA:Int)(aI:Option Addr)(aF aM:Nat)(aG:Option Addr)(aD aN:Nat)(p1 p2:Int)(m:Mem)(R:RT)(h:
 lV [int i64 aA,slice aI aF aM,slice aG aD aN] λxL=>lV [int i64 (-1),int i64 p1,int i64 p2,int i64 (-1),int i64 (-1)] λaq=>fzM m xL λb m'=>∀ba,∃I,lE [some (Box.mk ba aq 64 5 false true),
 some (Box.mk b xL 30 3 true true)] λar=>inI I [int i64 0] [] [] m'/\∀n aa (ay:Nat),m'.le aa->I [int i64 n] [] [] aa ay->br (decide (n < 5)) (atA aG λb o=>Zaf p1 aD/\∃(v:Value),aa b (o+Int.toNat p1
 * 2+1)=some v/\chk (Za5 v) (atA (slA v) λb o=>Zaf p2 (slN v)/\∃v bb bc bd be bf bg bh bi bj bk bl bm bn bo bp:Value,lV [v,bb,bc,bd,be,bf,bg,bh,bi,bj,bk,bl,bm,bn,bo,bp] λaz=>aa.reads b (o +
 Int.toNat p2*16) az/\∃R_1,True/\CX pG 10 (.mk [agg (.mk az)]) aa [] R_1/\ZaU (.agg [.int u8,.bool,.bool,.int u8,.int u64,.int u64,.int u64,.int u64,.int i64,.int i64,.slice,.str,.int i64,.slice,.str,.int
 i64]) R_1/\∀a0 (b ae:Bool) bq bs bt bu bv bw bx a bz c s a1 ca cb cc cd ce m',lX (string s) λyL=>lX (slice ca cb cc) λau=>lX (int u64 bv) λaf=>lX (int u8 bq) λag=>lX (int i64 a1) λah=>lX (int u64 bs)
 λai=>lX (int i64 bx) λaj=>lX (int i64 bw) λak=>lX (int u64 bu) λal=>lX (int u64 bt) λam=>lX (slice a bz c) λan=>lX (int u8 a0) λad=>lV [au,string cd,int i64 ce] λav=>lV (bool b::bool ae
 :: ag::ai::am::al::af::ak::aj::an::yL::ah::av) λa2=>lE [ad::bool true::bool false::int u8 4::int u64 0::int u64 0::int u64 0::int u64 0::int i64 0::int i64 0::slice none 0 0::yL::ah
 :: av] λa3=>aa.le m'->R_1 (agg (.mk (ad::a2))) m' []->∀a4,∃(J:JT),lE (some (Box.mk a4 [] 45 16 false true)::ar) λab=>br (n == 0) (Zae ab/\J [int i64 304] [int u8 9::a2] [] m') (br (n == 1) (Zae ab/\
 J [int i64 306] [[ad,bool b,bool ae,ag,ai,am,al,af,ak,aj,an,yL,ah,au,string (.mk (.mk [110,111,119,104,101,114,101])),int i64 0]] [] m') (br (n == 2) (Zae ab/\J [int i64 306] [[ad,bool b,bool ae,ag,ai,
 am,al,af,ak,aj,an,yL,ah,au,string bE0,int i64 (-1)]] [] m') (br (n == 3) (((↑(ByteArray.size s+ByteArray.size (.mk (.mk [120]))):Int)<=if true=true then(2:Int) ^ 63 - (1:Int)else(2:Int) ^ 64 - (1:Int))
 /\ Zae ab/\J [int i64 304] [ad::bool b::bool ae::ag::ai::am::al::af::ak::aj::an::string (.mk (.mk (List.append (Zb8 yL).1.1 [120])))::int i64 (i64.wrap (a1+1))::av] [] m') (br (a0 == 1) (Zae ab
 /\ J [int i64 305] a3 [] m') (Zae ab/\J [int i64 304] a3 [] m')))))/\∀aw (cs:List Value) ao,lE (some (Box.mk a4 cs 45 16 false true)::ar) λcf=>m'.le ao->J [int i64 aw] [cs] [] ao->∃R_2,True/\CX pG 11 (.mk [agg
 (.mk xL),int i64 p1,int i64 p2,agg (.mk cs)]) ao [] R_2/\ZaU (.tup [.agg [.int i64,.slice,.slice],.int i64]) R_2/\∀cg a ch c ci cj ck a5 m',lV [int i64 cg,slice a ch c,slice ci cj ck] λxL=>lX (agg (.mk xL)) fun
 yL=>ao.le m'->R_2 (tuple (.mk [yL,int i64 a5])) m' []->∀b,∃R_3,lE (some (Box.mk b xL 30 3 false true)::cf) λxL=>True/\CX pG 20 (.mk [yL]) m' [] R_3/\ZaU (.tup [.agg [.int i64,.int i64,.int i64,.int i64,.int
 i64],.int i64]) R_3/\∀cl cm cn co cp a6 ap,lV [int i64 cl,int i64 cm,int i64 cn,int i64 co,int i64 cp] λax=>m'.le ap->R_3 (tuple (.mk [agg (.mk ax),int i64 a6])) ap []->∀b,∃R_4,lE (some (Box.mk b ax 64 5 false
 true)::xL) λxL=>True/\CX pG 54 (.mk [yL,agg (.mk aq)]) ap [] R_4/\ZaU (.tup [.int i64,.bool]) R_4/\∀a7 (b:Bool) m',ap.le m'->R_4 (tuple (.mk [int i64 a7,bool b])) m' []->∃(a8:Bool),lV [bool a8] λac=>br
 (!a5 == 0) (Zae xL/\[bool true]=ac) (∃(a9:Bool),EqIs pG 64 (agg (.mk ax)) (agg (.mk aq)) a9/\br (!a9) (Zae xL/\[bool true]=ac) (br (!a6 == aw) (Zae xL/\[bool true]=ac) (br (!a7 == aw) (Zae xL/\[bool
 true]=ac) (br (!b) (Zae xL/\[bool true]=ac) (kB pG 22 [yL] m' λb m'=>Zae xL/\[bool b]=ac)))))/\br a8 (rtM m m' R (bool false)) (Zae ar/\nxI ay I [int i64 (i64.wrap (n+1))] [] [] m'))) (rtM m aa R (bool
 true))):CX Tryz.prog 23 #[.agg #[.int .i64 aA,.slice aI aF aM,.slice aG aD aN],.int .i64 p1,.int .i64 p2] m [] R:=
 Zad (E:=Zjr) Zal mix Tryz.func23 (by kernel_rfl) (Eq.mp (by kernel_rfl) h)
def Ze3:Env:={ EB with
 loops:=swI nLa [(9,⟨[(12,.int .i64),(47,.int .i64)],[],[],false⟩),(12,⟨[(12,.int .i64),(55,.int .i64)],[],[],false⟩)]
 joins:=swI none [(5,some [(43,.bool)]),(17,some [(86,.bool)]),(25,some [(8,.bool)])]
 dr:=swI [] [(21,[⟨0,[9],[],none,[],[]⟩,⟨1,[9],[],none,[0],[]⟩,dO 2 [],dO 3 [2],⟨4,[9],[],none,[],[]⟩,⟨5,[9],[],none,[4],[]⟩,dO 6 [4,5],dO 7 [2,3,4,5,6],dO 8 [0,1,2,3,4,5,6,7],dO 9 [0,1,2,3,4,5,6,7,8],dO 10 [0,1,2,3,4,5,6,7,8,9],⟨11,[9],[],none,[],[]⟩,⟨12,[9],[],none,[11],[]⟩,dO 13 [],dO 14 [13],⟨15,[9],[],none,[],[]⟩,⟨16,[9],[],none,[15],[]⟩,dO 17 [15,16],dO 18 [13,14,15,16,17],dO 19 [11,12,13,14,15,16,17,18],dO 20 [11,12,13,14,15,16,17,18,19],dO 21 [11,12,13,14,15,16,17,18,19,20],dO 22 [0,1,2,3,4,5,6,7,8,9,10],dO 23 (rg 0 23)]),(24,[⟨0,[9],[],none,[],[]⟩,⟨1,[9],[],none,[],[]⟩,dO 2 [1],⟨3,[],[],none,[0,1,2],[2]⟩,dO 4 [0,1,2,3],dO 5 [0,1,2,3,4],dO 6 [0,1,2,3,4],⟨7,[20],[20],none,[],[]⟩,⟨8,[20],[20],none,[0,1,2,3,4,5,7],[]⟩,dO 9 [0,1,2,3,4,5,6,7,8]])]
 frzNew:=[4]
 gb:=true }
theorem ZeH(aA:Int)(aI:Option Addr)(aF aM:Nat)(aG:Option Addr)(aD aN:Nat)(p1 p2 p3:Int)(m:Mem)(R:RT)(h:
 lV [int u8 aA,slice aI aF aM,slice aG aD aN] λxL=>fzM m xL λb m'=>lE [some (Box.mk b xL 25 3 true true)] λa4=>kB pG 6 [] m' λb m'=>br (!b) (rtM m m' R (bool false)) (∃R_1,True/\CX pG 7
 (.mk [agg (.mk xL)]) m' [] R_1/\ZaU (.agg [.int i64,.slice,.slice]) R_1/\∀n a a5 c al (ag:Nat) a6 am,lE (↑ag:Int) λyL=>lV [int i64 n,slice a a5 c,slice al ag a6] λxL=>lX (agg (.mk xL)) λab=>m'.le am->
 R_1 ab am []->∀b,∃R_2,lE (some (Box.mk b xL 30 3 false true)::a4) λxL=>True/\CX pG 20 (.mk [ab]) am [] R_2/\ZaU (.tup [.agg [.int i64,.int i64,.int i64,.int i64,.int i64],.int i64]) R_2/\∀n a7 a8 a9 ba a1 m',
 lV [int i64 n,int i64 a7,int i64 a8,int i64 a9,int i64 ba] λap=>am.le m'->R_2 (tuple (.mk [agg (.mk ap),int i64 a1])) m' []->∀b,∃(an:Bool),lE (some (Box.mk b ap 64 5 false true)::xL) λxL=>br (!a1 == 0)
 (Zae xL/\[bool true]=[bool an]) (∃(b:Bool),EqIs pG 64 (agg (.mk ap)) (agg (.mk [int i64 (-1),int i64 (-1),int i64 (-1),int i64 (-1),int i64 (-1)])) b/\br (!b) (Zae xL/\[bool true]=[bool an]) (kS pG 12 [ab] m'
 λa n c m'=>Zae xL/\[bool !(↑n:Int) == 0]=[bool an]))/\br an (rtM m m' R (bool false)) (∃I,inI I [int i64 0,int i64 0] [] [] m'/\∀n ah ac (a2:Nat),lX (int i64 ah) λaq=>m'.le ac->I [int i64 n,aq] [] []
 ac a2->br (decide (ah < yL)) (atA al λb o=>Zaf ah ag/\∃v ad:Value,lV [v,ad] λae=>ac.reads b (o+Int.toNat ah*2) ae/\∀b,lE (some (Box.mk b ae 34 2 false true)::xL) λar=>chk (v.oneCell' &&
 (ad.oneCell'&&true)) (chk (Za5 ad) (∃ao,inI ao [int i64 n,int i64 0] [] [] ac/\∀(n:Int) ai m' (aj:Nat),lE (i64.wrap (n+1)) λyL=>lV [int i64 ai] λau=>lV [int i64 yL,int i64 (i64.wrap (ai+1))] λa3=>
 ac.le m'->ao (int i64 n::au) [] [] m' aj->br (decide (ai < (↑(slN ad):Int))) ((3:Int)≠0/\(3:Int)≠0/\br (!Int.tmod yL (3:Int) == i64.wrap (Int.tmod p1 (3:Int))) (Zae ar/\nxI aj ao a3 [] [] m') (∃R_3,True/\
 CX pG 21 (.mk (ab::aq::au)) m' [] R_3/\ZaU (.tup [.agg [.int i64,.slice,.slice],.int i64]) R_3/\∀n a av c aw ax ay ak aa,lV [int i64 n,slice a av c,slice aw ax ay] λxL=>m'.le aa->R_3 (tuple (.mk [agg (.mk xL),
 int i64 ak])) aa []->∀b,∃(af:Bool),lE (some (Box.mk b xL 30 3 false true)::ar) λaz=>br (!ak == 0) (Zae az/\[bool true]=[bool af]) (kB pG 22 [agg (.mk xL)] aa λb m'=>br (!b) (Zae az/\[bool true]=[bool
 af]) (kB pG 23 (ab::aq::au) m' λb m'=>Zae az/\[bool !b]=[bool af]))/\br af (rtM m aa R (bool false)) (Zae ar/\nxI aj ao a3 [] [] aa))) (Zae xL/\nxI a2 I [int i64 n,int i64 (i64.wrap (ah+1))] [] [] m'))))
 (yL≠0/\atA al λb o=>Zaf (Int.tmod (i64.wrap p2) yL) ag/\∃(v:Value),ac b (o+Int.toNat (Int.tmod (i64.wrap p2) yL)*2+0)=some v/\yL≠0/\atA al λb o=>Zaf (Int.tmod (i64.wrap p3) yL) ag/\∃(ad:
 Value),ac b (o+Int.toNat (Int.tmod (i64.wrap p3) yL)*2+0)=some ad/\∃R_3,True/\CX pG 24 (.mk [ab,v,ad]) ac [] R_3/\ZaU (.agg [.int i64,.slice,.slice]) R_3/\∀n a ai c aw aj ay m',lX (agg (.mk [int i64 n,slice
 a ai c,slice aw aj ay])) λyL=>ac.le m'->R_3 yL m' []->kB pG 22 [yL] m' λb m'=>br (!b) (rtM m m' R (bool false)) (∃(f:Fx),∃R_4,R_4=f 2 [ab] m'/\CX pG 26 (.mk [ab]) m' [] R_4/\ZaU .slice R_4/\∀a n c aa,lX
 (slice a n c) λyL=>m'.le aa->R_4 yL aa []->∃R_5,R_5=f 3 [ab,yL] aa/\CX pG 25 (.mk [ab,yL]) aa [] R_5/\ZaU (.tup [.agg [.int i64,.slice,.slice],.int i64]) R_5/\∀n a av c bb ax bc ak a0,lV [int i64 n,slice a
 av c,slice bb ax bc] λae=>aa.le a0->R_5 (tuple (.mk [agg (.mk ae),int i64 ak])) a0 []->∀b M,lE (some (Box.mk b ae 30 3 false true)) λyL=>m'.le M->aa.le M->a0.le M->∃(b:Bool),br (ak == 0) (kB pG 22 [agg (.mk
 ae)] M λaf m'=>Zae (yL::yL::xL)/\[bool af]=[bool b]) (Zae (yL::yL::xL)/\[bool false]=[bool b])/\rtM m M R (bool b)))))):CX Tryz.prog 5 #[.agg #[.int .u8 aA,.slice aI aF aM,.slice aG aD aN],.int .u8 p1,.int .u8 p2,.int .u8 p3] m [] R:=
 Zad (E:=Ze3) Zal mix Tryz.func5 (by kernel_rfl) (Eq.mp (by kernel_rfl) h)
end Go.Proofs.YtdopppmkbkkmiaaGreatDoor
end
