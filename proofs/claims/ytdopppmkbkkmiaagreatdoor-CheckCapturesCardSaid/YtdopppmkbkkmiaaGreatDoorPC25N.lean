/- Part of the proof: functions of the program. No condition. -/
import Derived.Test.YtdopppmkbkkmiaaGreatDoorPC25H
import Derived.Test.YtdopppmkbkkmiaaGreatDoorMr
import Derived.Test.YtdopppmkbkkmiaaGreatDoorPC25MA
import Derived.Shelf.Sort.Plain
import Derived.Shelf.Slices.In.SortNone
import Derived.Shelf.SlicesE.Compact
import Derived.Test.YtdopppmkbkkmiaaGreatDoorPEnv
import Derived.Test.YtdopppmkbkkmiaaGreatDoorMc
set_option linter.unusedVariables false
set_option linter.unusedSimpArgs false
set_option linter.unusedSectionVars false
namespace Go.Proofs.YtdopppmkbkkmiaaGreatDoor
open Go Go.Eng Go.Rx Go.Proofs Go.RowKit
set_option maxRecDepth 100000
def ZuO(a:Ac):Bool:=!Zbe a.k 1 3||(a.k == 1&&!(a.s.size == 0))||(a.k == 3&&decide (a.parts.length > 0))||(a.k == 3&&!a.e.clean)||(!(a.k == 3)&&!Zlo a.e)||decide (a.parts.length > 16)
theorem ZqH(a:Ac)(m:Mem)(b b1:Nat)(hr:RepA m a)(hb:m.reads b 0 a.cs)(cA:m.reads b1 0 [.bool (a.k == 3)]):CX Tryz.prog 135 #[.pointer (some ⟨b,0,none⟩),.pointer (some ⟨b1,0,none⟩)] m [] (Ret (.bool (ZuO a))):=by
 apply Zfw (c0b:=b) (c0o:=0) (c1b:=b1) (c1o:=0)
 have hw:IntKind.i64.wrap a.k=a.k:=Zam (by have:=hr.k;omega) (by have:=hr.k;omega)
 have num:∀{M:Mem} {Q:Bool->Prop},m.le M->Q (a.k == 3)->∃v:Value,M.c b1 0=some v/\∃x:Bool,v=.bool x/\Q x:=λhM h=>⟨_,(cA.mono hM) 0 _ rfl,_,rfl,h⟩
 have big:∀{M:Mem},m.le M->ZuO a=decide (a.parts.length > 16)->∃v:Value,M.c b (0+2)=some v/\chk (Zbl v) ([Value.bool (decide ((slN v:Int) > 16))]=[Value.bool (ZuO a)]):=λhM h=>⟨_,(hb.mono hM) 2 _ rfl,Zaa rfl (Zaf (by
  rw[h]
  show decide ((a.parts.length:Int) > 16)=decide (a.parts.length > 16)
  rw[decide_eq_decide];omega))⟩
 refine⟨ZuO a,?_,Zac (Mem.le_refl m) rfl⟩
 refine⟨_,hb 0 _ rfl,Zaa rfl ?_⟩
 show ∃R:RT,True/\CX Tryz.prog 124 #[.int .i64 (IntKind.i64.wrap a.k),.int .i64 1,.int .i64 3] m [] R/\_
 rw[hw]
 refine Zah (Zeu a.k 1 3 m) λm1 aB=>Zab (λh=>Zaf ?_) (λiI=>⟨_,(hb.mono aB) 0 _ rfl,Zaa rfl ?_⟩)
 ·unfold ZuO;rw[h];rfl
 cases hn:(a.k == 3)with
 | true=>
  have hk:a.k=3:=by simpa using hn
  refine ZdO (by show(a.k == 1)=false;rw[hk];rfl) (num aB (ZrH hn ⟨_,(hb.mono aB) 2 _ rfl,Zaa rfl (ZaE (λh=>Zaf ?_) (λh=>num aB (ZrH hn ⟨_,_,_,_,_,ZbX (hb.mono aB) 3 5,Zah (Zpe a.e m1 (RepE.mono aB _ hr.e)) λm2 aH=>Zab (λh2=>Zaf ?_) (λh2=>num (mLt aB aH) (ZdO (by rw[hn];rfl) (big (mLt aB aH) ?_)))⟩)))⟩))
  ·have h:(a.parts.length:Int) > 0:=h
   unfold ZuO;rw[hn,decide_eq_true (p:=a.parts.length > 0) (by omega),iI];simp
  ·have h:¬(a.parts.length:Int) > 0:=h
   unfold ZuO;rw[hn,h2];simp
  ·have h:¬(a.parts.length:Int) > 0:=h
   unfold ZuO;rw[hn,h2,iI,decide_eq_false (p:=a.parts.length > 0) (by omega),hk];simp
 | false=>
  refine Zab (λh1=>⟨_,(hb.mono aB) 1 _ rfl,Zaa rfl (Zab (λh=>Zaf ?_) (λh=>num aB (ZdO hn (num aB (ZdO hn (num aB (ZrH (by rw[hn];rfl) ⟨_,_,_,_,_,ZbX (hb.mono aB) 3 5,Zah (ZuN a.e m1 (RepE.mono aB _ hr.e)) λm2 aH=>Zab (λh2=>Zaf ?_) (λh2=>big (mLt aB aH) ?_)⟩)))))))⟩)
   (λh1=>num aB (ZdO hn (num aB (ZdO hn (num aB (ZrH (by rw[hn];rfl) ⟨_,_,_,_,_,ZbX (hb.mono aB) 3 5,Zah (ZuN a.e m1 (RepE.mono aB _ hr.e)) λm2 aH=>Zab (λh2=>Zaf ?_) (λh2=>big (mLt aB aH) ?_)⟩))))))
  ·have h1:(a.k == 1)=true:=h1
   have h:(!(a.s.size == 0))=true:=by rw[<-Zcf];exact h
   unfold ZuO;rw[h1,h];simp
  ·unfold ZuO;rw[hn,h2];simp
  ·have h:(!(a.s.size == 0))=false:=by rw[<-Zcf];exact h
   unfold ZuO;rw[hn,h2,h,iI];simp
  ·unfold ZuO;rw[hn,h2];simp
  ·have h1:(a.k == 1)=false:=h1
   unfold ZuO;rw[hn,h2,h1,iI];simp
def Zya(s:Sc)(a:Ac):Bool:=(!(a.k == 1)&&(!(Zbz s a.s).2||!((Zbz s a.s).1 == (a.k == 3))))||(a.k == 3&&!Za2 s a.e)
theorem ZqI(s:Sc)(a:Ac)(m:Mem)(b b1 b2:Nat)(hs:RepC m s)(hr:RepA m a)(hb:m.reads b 0 s.cs)(cA:m.reads b1 0 a.cs)(eF:m.reads b2 0 [.bool (a.k == 3)]):
  CX Tryz.prog 138 #[.pointer (some ⟨b,0,none⟩),.pointer (some ⟨b1,0,none⟩),.pointer (some ⟨b2,0,none⟩)] m [] (Ret (.bool (Zya s a))):=by
 apply Zfx (c0b:=b) (c0o:=0) (c1b:=b1) (c1o:=0) (c2b:=b2) (c2o:=0)
 refine⟨_,_,_,hb,_,cA 1 _ rfl,Zak (ZrW s a.s m hs) (λv _ _ e=>by rw[show v=_ from e];rfl) ?_⟩
 intro x y m1 aB hv
 have hv:Value.tuple (Array.mk [Value.bool x,Value.bool y])=Value.tuple #[.bool (Zbz s a.s).1,.bool (Zbz s a.s).2]:=hv
 simp only[Value.tuple.injEq,Array.mk.injEq,List.cons.injEq,Value.bool.injEq,and_true]at hv
 obtain⟨rfl,rfl⟩:=hv
 have num:∀{M:Mem} {Q:Bool->Prop},m.le M->Q (a.k == 3)->∃v:Value,M.c b2 0=some v/\∃x:Bool,v=.bool x/\Q x:=λhM h=>⟨_,(eF.mono hM) 0 _ rfl,_,rfl,h⟩
 have three:Zya s a=(a.k == 3&&!Za2 s a.e)->∃v:Value,m1.c b2 0=some v/\∃x:Bool,v=.bool x/\br x (∃v v4 v5:Value,m1.reads b 0 [v,v4,v5]/\∃v6 v7 v8 v9 v10:Value,m1.reads b1 (0+3) [v6,v7,v8,v9,v10]/\∃R:RT,True/\CX Tryz.prog 140 #[.agg #[v,v4,v5],.agg #[v6,v7,v8,v9,v10]] m1 [] R/\Za6 .bool R/\∀(x:Bool)(m':Mem),m1.le m'->R (.bool x) m' []->[Value.bool !x]=[Value.bool (Zya s a)]) ([Value.bool false]=[Value.bool (Zya s a)]):=λhe=>num aB (Zab (λh3=>⟨_,_,_,hb.mono aB,_,_,_,_,_,ZbX (cA.mono aB) 3 5,Zah (Zh4 s a.e m1 (hs.mono aB) (RepE.mono aB _ hr.e)) λm2 aH=>Zaf (by rw[he,h3];rfl)⟩) (λh3=>Zaf (by rw[he,h3];rfl)))
 refine⟨Zya s a,⟨_,(cA.mono aB) 0 _ rfl,Zaa rfl (Zab (λh1=>Zab (λh2=>Zaf ?_) (λh2=>num aB (Zab (λh3=>Zaf ?_) (λh3=>three ?_)))) (λh1=>three ?_))⟩,Zac aB rfl⟩
 ·have h1:(!(a.k == 1))=true:=h1
  unfold Zya;rw[h1,h2];rfl
 ·have h1:(!(a.k == 1))=true:=h1
  unfold Zya;rw[h1,h3];simp
 ·have h1:(!(a.k == 1))=true:=h1
  unfold Zya;rw[h1,h2,h3];rfl
 ·have h1:(!(a.k == 1))=false:=h1
  unfold Zya;rw[h1];rfl
def Zz5(r:Ru)(a:Ac):Bool:=a.k == 3&&decide (a.e.most > Zbj r)
theorem ZqJ(r:Ru)(a:Ac)(m:Mem)(b b1 b2:Nat)(hr:RepR m r)(ha:RepA m a)(hb:m.reads b 0 [.bool (a.k == 3)])(cA:m.reads b1 0 a.cs)(eF:m.reads b2 0 r.cs):
  CX Tryz.prog 141 #[.pointer (some ⟨b,0,none⟩),.pointer (some ⟨b1,0,none⟩),.pointer (some ⟨b2,0,none⟩)] m [] (Ret (.bool (Zz5 r a))):=by
 apply Zfy (c0b:=b) (c0o:=0) (c1b:=b1) (c1o:=0) (c2b:=b2) (c2o:=0)
 refine⟨λi _ _=>match i with
  | 4=>Ret (.int .i64 a.e.most)
  | _=>Ret (.int .i64 (Zbj r)),_,hb 0 _ rfl,_,rfl,Zab (λh=>?_) (λh M hM _ _=>Zac hM ?_)⟩
 ·refine⟨_,_,_,_,_,ZbX cA 3 5,_,rfl,ZrV a.e m ha.e,λv _ _ e=>by rw[show v=_ from e];rfl,λn m1 aB hn=>?_⟩
  obtain rfl:n=a.e.most:=by cases hn;rfl
  refine⟨_,_,_,_,_,_,_,_,_,_,_,_,_,_,_,_,eF,_,rfl,Zev r m1 (hr.t.mono aB),λv _ _ e=>by rw[show v=_ from e];rfl,λn1 m2 aH hn M hM _ _=>Zac hM ?_⟩
  obtain rfl:n1=Zbj r:=by cases hn;rfl
  show Value.bool _=Value.bool (Zz5 r a)
  unfold Zz5;rw[h];rfl
 ·show Value.bool _=Value.bool (Zz5 r a)
  unfold Zz5;rw[h];rfl
theorem ZtI(s:Sc)(r:Ru)(a:Ac)(m:Mem)(hs:RepC m s)(hr:RepR m r)(ha:RepA m a):CX Tryz.prog 101 #[s.v,.agg r.cs.toArray,.agg a.cs.toArray] m [] (Ret (.int .i64 (ZaO s r a))):=by
 apply ZhA
 intro b m1 aB hb b1 m2 aH cA b2 m3 aQ eF b3 b4 hf m4 bJ dW
 have cT:=mLt aB (mLt aH aQ)
 have mV:=mLt (Mem.le_add hf _) bJ
 refine ZaC (Zf3 [((307,135,[.pointer (some ⟨b2,0,none⟩),.pointer (some ⟨b3,0,none⟩)]),ZuO a),((308,138,[.pointer (some ⟨b,0,none⟩),.pointer (some ⟨b2,0,none⟩),.pointer (some ⟨b3,0,none⟩)]),Zya s a),
  ((309,141,[.pointer (some ⟨b3,0,none⟩),.pointer (some ⟨b2,0,none⟩),.pointer (some ⟨b1,0,none⟩)]),Zz5 r a)] _ 3 _ (by simp) (.inr ⟨b4,0,rfl,(Zaw m3 b4 _).mono bJ⟩) λx hx m' hm'=>?_) λm5 cH=>Zac (mLt cT (mLt mV cH)) rfl
 have hl:=mLt mV hm'
 have h0':=mLt cT hl
 simp only[List.mem_cons,List.not_mem_nil,or_false]at hx
 rcases hx with rfl|rfl|rfl
 ·exact ZqH a m' b2 b3 (ha.mono h0') (eF.mono hl) (dW.mono hm')
 ·exact ZqI s a m' b b2 b3 (hs.mono h0') (ha.mono h0') (hb.mono (mLt aH (mLt aQ hl))) (eF.mono hl) (dW.mono hm')
 ·exact ZqJ r a m' b3 b2 b1 (hr.mono h0') (ha.mono h0') (dW.mono hm') (eF.mono hl) (cA.mono (mLt aQ hl))
def ZrZ(l:List Pt)(i:Nat)(p:Pt):Bool:=!Za0 p||(decide (i > 0)&&(p.k == 1&&(match l[i - 1]? with
 | some q=>q.k == 1
 | none=>false)))
theorem Zwh(l:List Pt)(a:Option Addr)(c:Nat)(i:Nat)(p:Pt)(m:Mem)(b b1 b2:Nat)(hl:l.length<=few)(aF:rowRd m a (l.map Pt.cs).flatten)(hi:i<=l.length)(hp:RepP m p)(hb:m.reads b 0 p.cs)(cA:m.reads b1 0 [.int .i64 i])(eF:m.reads b2 0 [.slice a l.length c]):
  CX Tryz.prog 143 #[.pointer (some ⟨b,0,none⟩),.pointer (some ⟨b1,0,none⟩),.pointer (some ⟨b2,0,none⟩)] m [] (Ret (.bool (ZrZ l i p))):=by
 apply ZhB (c0b:=b) (c0o:=0) (c1b:=b1) (c1o:=0) (c2b:=b2) (c2o:=0)
 unfold few at hl
 refine⟨ZrZ l i p,⟨_,_,_,_,_,_,_,_,hb,Zah (ZmP p m hp) λm1 aB=>Zab (λh=>Zaf ?_) (λh=>⟨_,(cA.mono aB) 0 _ rfl,Zaa rfl (ZaE (λh2=>⟨_,(hb.mono aB) 0 _ rfl,Zaa rfl (Zab (λh3=>?_) (λh3=>Zaf ?_))⟩) (λh2=>Zaf ?_))⟩)⟩,Zac (Mem.le_refl m) rfl⟩
 ·unfold ZrZ;rw[h];rfl
 ·have h2:(i:Int) > 0:=h2
  have h3:(p.k == 1)=true:=h3
  have aG:i - 1 < l.length:=by omega
  obtain⟨q,hq⟩:=Zet aG
  have hw:IntKind.i64.wrap ((i:Int) - 1)=((i - 1:Nat):Int):=by rw[Zam (by omega) (by omega)];omega
  obtain⟨b3,o3,ha,hx⟩:=Zap Pt.len (aF.mono aB) hq (by omega)
  refine⟨_,(eF.mono aB) 0 _ rfl,_,(cA.mono aB) 0 _ rfl,Zaa rfl (Zaa rfl ⟨b3,o3,ha,?_,.int .u8 q.k,?_,Zaa rfl (Zaf ?_)⟩)⟩
  ·show Zag (IntKind.i64.wrap ((i:Int) - 1)) l.length
   rw[hw];exact⟨by omega,by omega⟩
  ·show m1.c b3 (o3+(IntKind.i64.wrap ((i:Int) - 1)).toNat*8+0)=_
   rw[hw,zA8]
   exact hx 0 _ rfl
  ·show(q.k == 1)=_
   unfold ZrZ;rw[h,decide_eq_true (p:=i > 0) (by omega),h3,hq];rfl
 ·have h3:(p.k == 1)=false:=h3
  unfold ZrZ;rw[h,h3];simp
 ·have h2:¬(i:Int) > 0:=h2
  unfold ZrZ;rw[h,decide_eq_false (p:=i > 0) (by omega)];rfl
def ZpG(s:Sc)(p:Pt):Bool:=(p.k == 2&&!(Zbz s p.s).2)||(p.k == 4&&!Za2 s p.e)
theorem Zwi(s:Sc)(p:Pt)(m:Mem)(b b1:Nat)(hs:RepC m s)(hp:RepP m p)(hb:m.reads b 0 s.cs)(cA:m.reads b1 0 p.cs):
  CX Tryz.prog 145 #[.pointer (some ⟨b,0,none⟩),.pointer (some ⟨b1,0,none⟩)] m [] (Ret (.bool (ZpG s p))):=by
 apply ZhC (c0b:=b) (c0o:=0) (c1b:=b1) (c1o:=0)
 refine⟨_,_,_,hb,_,cA 1 _ rfl,Zak (ZrW s p.s m hs) (λv _ _ e=>by rw[show v=_ from e];rfl) ?_⟩
 intro x y m1 aB hv
 have hv:Value.tuple (Array.mk [Value.bool x,Value.bool y])=Value.tuple #[.bool (Zbz s p.s).1,.bool (Zbz s p.s).2]:=hv
 simp only[Value.tuple.injEq,Array.mk.injEq,List.cons.injEq,Value.bool.injEq,and_true]at hv
 obtain⟨rfl,rfl⟩:=hv
 refine⟨ZpG s p,⟨_,(cA.mono aB) 0 _ rfl,Zaa rfl (Zab (λh1=>Zab (λh2=>Zaf ?_) (λh2=>⟨_,(cA.mono aB) 0 _ rfl,Zaa rfl (Zab (λh3=>⟨_,_,_,hb.mono aB,_,_,_,_,_,ZbX (cA.mono aB) 3 5,Zah (Zh4 s p.e m1 (hs.mono aB) (RepE.mono aB _ hp.e)) λm2 aH=>Zaf ?_⟩) (λh3=>Zaf ?_))⟩))
  (λh1=>⟨_,(cA.mono aB) 0 _ rfl,Zaa rfl (Zab (λh3=>⟨_,_,_,hb.mono aB,_,_,_,_,_,ZbX (cA.mono aB) 3 5,Zah (Zh4 s p.e m1 (hs.mono aB) (RepE.mono aB _ hp.e)) λm2 aH=>Zaf ?_⟩) (λh3=>Zaf ?_))⟩))⟩,Zac aB rfl⟩
 ·have h1:(p.k == 2)=true:=h1
  unfold ZpG;rw[h1,h2];rfl
 ·have h1:(p.k == 2)=true:=h1
  have h3:(p.k == 4)=true:=h3
  unfold ZpG;rw[h1,h2,h3];rfl
 ·have h1:(p.k == 2)=true:=h1
  have h3:(p.k == 4)=false:=h3
  unfold ZpG;rw[h1,h2,h3];rfl
 ·have h1:(p.k == 2)=false:=h1
  have h3:(p.k == 4)=true:=h3
  unfold ZpG;rw[h1,h3];rfl
 ·have h1:(p.k == 2)=false:=h1
  have h3:(p.k == 4)=false:=h3
  unfold ZpG;rw[h1,h3];rfl
def ZmY(r:Ru)(p:Pt):Bool:=(p.k == 3&&decide (p.g > Zbj r))||(p.k == 4&&decide (p.e.most > Zbj r))
theorem Zwj(r:Ru)(p:Pt)(m:Mem)(b b1:Nat)(hr:RepR m r)(hp:RepP m p)(hb:m.reads b 0 p.cs)(cA:m.reads b1 0 r.cs):
  CX Tryz.prog 146 #[.pointer (some ⟨b,0,none⟩),.pointer (some ⟨b1,0,none⟩)] m [] (Ret (.bool (ZmY r p))):=by
 apply ZhD (c0b:=b) (c0o:=0) (c1b:=b1) (c1o:=0)
 refine⟨λi _ _=>match i with
  | 17=>Ret (.int .i64 p.e.most)
  | _=>Ret (.int .i64 (Zbj r)),_,hb 0 _ rfl,Zaa rfl (Zab (λh3=>?_) (λh3=>?_))⟩
 ·have h3:(p.k == 3)=true:=h3
  have hk:p.k=3:=by simpa using h3
  refine⟨_,hb 2 _ rfl,_,_,_,_,_,_,_,_,_,_,_,_,_,_,_,_,cA,_,rfl,Zev r m hr.t,λv _ _ e=>by rw[show v=_ from e];rfl,λn m1 aB hn=>?_⟩
  obtain rfl:n=Zbj r:=by cases hn;rfl
  refine Zaa rfl (ZaE (λh=>λM hM _ _ _=>Zac hM ?_) (λh=>⟨_,(hb.mono aB) 0 _ rfl,Zaa rfl (ZdO (by show(p.k == 4)=false;rw[hk];rfl) λM hM _ _ _=>Zac hM ?_)⟩))
  ·have h:p.g > Zbj r:=h
   show Value.bool _=Value.bool (ZmY r p)
   unfold ZmY;rw[h3,decide_eq_true h];rfl
  ·have h:¬p.g > Zbj r:=h
   show Value.bool _=Value.bool (ZmY r p)
   unfold ZmY;rw[decide_eq_false h,hk];rfl
 ·have h3:(p.k == 3)=false:=h3
  refine⟨_,hb 0 _ rfl,Zaa rfl (Zab (λh4=>?_) (λh4 M hM _ _ _=>Zac hM ?_))⟩
  ·have h4:(p.k == 4)=true:=h4
   refine⟨_,_,_,_,_,ZbX hb 3 5,_,rfl,ZrV p.e m hp.e,λv _ _ e=>by rw[show v=_ from e];rfl,λn m1 aB hn=>?_⟩
   obtain rfl:n=p.e.most:=by cases hn;rfl
   refine⟨_,_,_,_,_,_,_,_,_,_,_,_,_,_,_,_,cA,_,rfl,Zev r m1 (hr.t.mono aB),λv _ _ e=>by rw[show v=_ from e];rfl,λn1 m2 aH hn M hM _ _ _=>Zac hM ?_⟩
   obtain rfl:n1=Zbj r:=by cases hn;rfl
   show Value.bool _=Value.bool (ZmY r p)
   unfold ZmY;rw[h3,h4];rfl
  ·have h4:(p.k == 4)=false:=h4
   show Value.bool _=Value.bool (ZmY r p)
   unfold ZmY;rw[h3,h4];rfl
theorem ZfY(s:Sc)(r:Ru)(l:List Pt)(i:Nat)(p:Pt):ZcW s r l i p=ZaZ [(307,ZrZ l i p),(308,ZpG s p),(309,ZmY r p)]:=rfl
theorem Zyb(s:Sc)(r:Ru)(l:List Pt)(a:Option Addr)(c:Nat)(i:Nat)(p:Pt)(m:Mem)(hs:RepC m s)(hr:RepR m r)(hl:l.length<=few)(aF:rowRd m a (l.map Pt.cs).flatten)(bL:∀x∈l,RepP m x)(hi:l[i]?=some p):
  CX Tryz.prog 102 #[s.v,.agg r.cs.toArray,.slice a l.length c,.int .i64 i] m [] (Ret (.int .i64 (ZcW s r l i p))):=by
 apply ZkA
 intro b m1 aB hb b1 m2 aH cA b2 m3 aQ eF b3 m4 bJ dW
 have oQ:=mLt aQ bJ
 have jq:=mLt aH oQ
 have kN:=mLt aB jq
 have aG:=(zA0 hi).1
 have hl':=hl
 unfold few at hl'
 obtain⟨b4,o4,ha,hx⟩:=Zap Pt.len (aF.mono kN) hi (by omega)
 refine⟨b4,o4,ha,⟨by omega,by omega⟩,_,_,_,_,_,_,_,_,hx,λb5=>Zaa rfl λb6 hf m5 cH tg=>?_⟩
 have uT:=mLt (Mem.le_add hf _) cH
 refine ZaC (Zf3 [((307,143,[.pointer (some ⟨b5,0,none⟩),.pointer (some ⟨b3,0,none⟩),.pointer (some ⟨b2,0,none⟩)]),ZrZ l i p),((308,145,[.pointer (some ⟨b,0,none⟩),.pointer (some ⟨b5,0,none⟩)]),ZpG s p),
  ((309,146,[.pointer (some ⟨b5,0,none⟩),.pointer (some ⟨b1,0,none⟩)]),ZmY r p)] _ 3 _ (by simp) (.inr ⟨b6,0,rfl,(Zaw m4 b6 _).mono cH⟩) λx hx m' hm'=>?_) λm6 iL=>Zac (mLt kN (mLt uT iL)) rfl
 have hl:=mLt uT hm'
 have h0':=mLt kN hl
 have hp:=(bL p (zA2 hi)).mono h0'
 simp only[List.mem_cons,List.not_mem_nil,or_false]at hx
 rcases hx with rfl|rfl|rfl
 ·exact Zwh l a c i p m' b5 b3 b2 (by unfold few;omega) (aF.mono h0') (by omega) hp (tg.mono hm') (dW.mono hl) (eF.mono (mLt bJ hl))
 ·exact Zwi s p m' b b5 (hs.mono h0') hp (hb.mono (mLt jq hl)) (tg.mono hm')
 ·exact Zwj r p m' b5 b1 (hr.mono h0') hp (tg.mono hm') (cA.mono (mLt oQ hl))
theorem Zne(r:Ru):0<=sizeR r/\sizeR r<=10001:=by
 have:=Zjd r.t
 unfold sizeR;split <;> omega
theorem Zyc{α:Type}(f:α->Int)(B:Int)(l:List α)(hf:∀x∈l,f x<=B):ZbA (l.map f)<=l.length*B:=by
 induction l with
 | nil=>simp[ZbA]
 | cons x l ih=>
  have h1:=hf x (by simp)
  have h2:=ih λy hy=>hf y (by simp[hy])
  simp only[List.map_cons,ZbA,List.length_cons]
  push_cast
  rw[Int.add_mul];omega
def ZtJ(x:Sta):Int:=ZbA (x.rules.map sizeR)
def T0s(s:Sc)(i:Nat):Int:=ZbA ((s.states.take i).map ZtJ)
theorem ZtK{s:Sc}{i:Nat}{x:Sta}(h:s.states[i]?=some x)(k:Nat):totals s i k=T0s s i+ZbA ((x.rules.take (k+1)).map sizeR):=by
 unfold totals;rw[h];rfl
theorem Znf{m:Mem}{x:Sta}(hx:RepS m x)(k:Nat):0<=ZbA ((x.rules.take k).map sizeR)/\ZbA ((x.rules.take k).map sizeR)<=1000100000:=by
 have hl:=hx.len
 unfold few at hl
 refine⟨Zfj _ (λr=>(Zne r).1) _,?_⟩
 have:=Zyc sizeR 10001 (x.rules.take k) λr _=>(Zne r).2
 rw[List.length_take]at this
 omega
theorem ZAV{m:Mem}{s:Sc}(hs:RepC m s)(i:Nat):0<=T0s s i/\T0s s i<=100010000000000:=by
 have hl:=hs.len
 unfold few at hl
 refine⟨Zfj _ (λx=>Zfj _ (λr=>(Zne r).1) _) _,?_⟩
 have:=Zyc ZtJ 1000100000 (s.states.take i) λx hx=>by
  have:=(Znf (hs.all x (List.mem_of_mem_take hx)) x.rules.length).2
  rw[List.take_length]at this;exact this
 rw[List.length_take]at this
 unfold T0s;omega
def ZwM(s:Sc)(i n:Nat):List Value:=(List.range n).map λj=>.int .i64 (totals s i j)
theorem Zwk(s:Sc)(i n:Nat):(ZwM s i n).length=n:=by simp[ZwM]
theorem ZtL(s:Sc)(i n:Nat):ZwM s i (n+1)=ZwM s i n++[.int .i64 (totals s i n)]:=by simp[ZwM,List.range_succ]
def TotI(s:Sc)(i:Nat)(a:Option Addr)(vs:List Value)(m:Mem):Prop:=vs.length=i/\rowRd m a vs/\∀(k:Nat)(x:Sta),k < i->s.states[k]?=some x->∃ak ck,vs[k]?=some (.slice ak x.rules.length ck)/\rowRd m ak (ZwM s k x.rules.length)
theorem TotI.mono{s:Sc}{i:Nat}{a:Option Addr}{vs:List Value}{m m':Mem}(h:TotI s i a vs m)(hm:m.le m'):TotI s i a vs m':=⟨h.1,h.2.1.mono hm,λk x hk hx=>by
 obtain⟨ak,ck,h1,h2⟩:=h.2.2 k x hk hx
 exact⟨ak,ck,h1,h2.mono hm⟩⟩
def ZBj(s:Sc):Value->Mem->List (List Value)->Prop:=λv m _=>∃a c vs,v=.slice a s.states.length c/\TotI s s.states.length a vs m
theorem Zwl{s}:∀(v:Value)(m':Mem) (css:List (List Value)),ZBj s v m' css->Shape.fits .slice v=true:=λv _ _ ⟨_,_,_,e,_⟩=>by rw[e];rfl
set_option maxHeartbeats 1000000 in
theorem ZtM(s:Sc)(m:Mem)(hr:RepC m s):CX Tryz.prog 72 #[s.v] m [] (ZBj s):=by
 apply ZhE
 intro b m1 aB _
 have fO:=hr.len
 unfold few at fO
 refine⟨λxs _ tks m' q=>∃(i:Nat)(a:Option Addr)(c:Nat)(vs:List Value),i<=s.states.length/\xs=[.int .i64 (T0s s i),.slice a i c,.int .i64 i]/\tks=[.slice a i c]/\m1.le m'/\TotI s i a vs m'/\q=s.states.length - i,
  ⟨s.states.length,0,none,0,[],by omega,rfl,rfl,Mem.le_refl _,⟨rfl,.inl rfl,λk x hk=>absurd hk (by omega)⟩,rfl⟩,?_⟩
 rintro n a n1 c n2 a1 n3 c1 m2 q aH ⟨i,A,C,vs,hi,hx,ht,bH,hT,hq⟩
 simp only[List.cons.injEq,Value.int.injEq,Value.slice.injEq,and_true,true_and]at hx ht
 obtain⟨rfl,⟨ea,en,ec⟩,rfl⟩:=hx
 obtain⟨ea',en',ec'⟩:=ht
 subst a1 n3 c1 a n1 c
 subst hq
 have fH:=mLt aB aH
 have hw:∀k:Nat,k<=100000->IntKind.i64.wrap ((k:Int)+1)=((k+1:Nat):Int):=λk hk=>by rw[Zam (by omega) (by omega)];rfl
 refine ZaE (λaG=>?_) (λbM=>?_)
 ·have aG:(i:Int) < (s.states.length:Int):=aG
  have aR:i < s.states.length:=by omega
  obtain⟨x,hx⟩:=Zet aR
  have dB:=hr.all x (zA2 hx)
  have kM:=dB.len
  unfold few at kM
  obtain⟨b2,o2,ha,iw⟩:=Zap Sta.len (hr.row.mono fH) hx (by omega)
  refine⟨b2,o2,ha,⟨by omega,by omega⟩,_,_,by rw[zA8];exact iw,λb3=>Zaa rfl (Zaa rfl ?_)⟩
  refine⟨λxs _ tks m' q=>∃(k:Nat)(ak:Option Addr)(ck:Nat),k<=x.rules.length/\xs=[.int .i64 (T0s s i+ZbA ((x.rules.take k).map sizeR)),.slice ak k ck,.int .i64 k]/\tks=[.slice ak k ck]/\rowRd m' ak (ZwM s i k)/\q=x.rules.length - k,
   ⟨x.rules.length,0,none,0,by omega,by simp[ZbA],rfl,.inl rfl,rfl⟩,?_⟩
  rintro n a4 n5 c2 n6 a5 n7 c3 m3 q aQ ⟨k,ak,ck,hk,kP,uU,aF,hq⟩
  simp only[List.cons.injEq,Value.int.injEq,Value.slice.injEq,and_true,true_and]at kP uU
  obtain⟨rfl,⟨ea,en,ec⟩,rfl⟩:=kP
  obtain⟨ea',en',ec'⟩:=uU
  subst a5 n7 c3 a4 n5 c2
  subst hq
  have cT:=mLt fH aQ
  refine ZaE (λeI=>?_) (λfI=>?_)
  ·have eI:(k:Int) < (x.rules.length:Int):=eI
   obtain⟨r,fV⟩:=Zet (show k < x.rules.length by omega)
   have ia:=dB.all r (zA2 fV)
   obtain⟨b4,o4,pX,lN⟩:=Zap Ru.len (dB.row.mono cT) fV (by omega)
   have xW:=ZAV hr i
   have gE:=Znf dB k
   have w9:=Znf dB (k+1)
   have dF:=ZeI sizeR fV
   have qh:=ZtK hx k
   have next:∀{M M2:Mem} {b5:Nat} {z:Int} {Q:Option Addr->Nat->Mem->Prop},m3.le M->M.free b5->z=totals s i k->(∀(a':Option Addr)(c':Nat)(m':Mem),M.le m'->rowRd m' a' (ZwM s i (k+1))->Q a' c' m')->
     (Tok.mk (.slice ak k ck) 1=Tok.mk (.slice ak k ck) 1\/Value.slice ak k ck=.slice none 0 0\/ck < k+1)/\∃xs ys:List Value,xs.length=k*1/\ys.length=1*1/\rowRd (M.add b5 [.int .i64 z]) ak xs/\rowRd (M.add b5 [.int .i64 z]) (some ⟨b5,0,none⟩) ys/\(∀u∈ys,u.oneCell'=true)/\
      (k+1)*8<=140737488355328/\k+1<=9223372036854775807/\∀(a':Option Addr)(c':Nat)(m':Mem),(M.add b5 [.int .i64 z]).le m'->rowRd m' a' (xs++ys)->Q a' c' m':=λ{M M2 b5 z Q} hM hf hz hQ=>
    ⟨.inl rfl,ZwM s i k,[.int .i64 z],by rw[Zwk];omega,rfl,aF.mono (mLt hM (Mem.le_add hf _)),.inr ⟨b5,0,rfl,Zaw M b5 _⟩,by simp[Value.oneCell'],by omega,by omega,λa' c' m' hm' hr'=>hQ a' c' m' (mLt (Mem.le_add hf _) hm') (by rw[ZtL,<-hz];exact hr')⟩
   refine Zaa rfl ⟨b4,o4,pX,⟨by omega,eI⟩,_,_,_,_,_,_,_,_,_,_,_,_,_,_,_,_,by rw[zA8];exact lN,λb5=>Zaa rfl (Zaa rfl (Zab (λiU=>?_) (λiU b6 hf=>?_)))⟩
   ·have iU:r.k=1:=eq_of_beq (show(r.k == 1)=true from iU)
    have hz:sizeR r=r.t.size:=by unfold sizeR;rw[if_pos iU]
    refine ZaC (ZrG r.t m3 (ia.t.mono cT)) λm4 bJ b6 hf=>?_
    have bI:=Zjd r.t
    rw[Zam (n:=_+r.t.size) (by omega) (by omega)]
    refine next (M2:=m4) bJ hf (by rw[qh,dF,hz];omega) λa' c' m' hm' hr'=>⟨rfl,rfl,x.rules.length - (k+1),by omega,k+1,a',c',by omega,?_,rfl,hr',rfl⟩
    rw[hw k (by omega),dF,hz]
    simp only[Int.add_assoc]
   ·have iU:¬r.k=1:=λe=>by
     have:(r.k == 1)=false:=iU
     rw[e]at this;simp at this
    have hz:sizeR r=0:=by unfold sizeR;rw[if_neg iU]
    refine next (M2:=m3) (Mem.le_refl _) hf (by rw[qh,dF,hz];omega) λa' c' m' hm' hr'=>⟨rfl,rfl,x.rules.length - (k+1),by omega,k+1,a',c',by omega,?_,rfl,hr',rfl⟩
    rw[hw k (by omega),dF,hz,Int.add_zero]
  ·have fI:¬(k:Int) < (x.rules.length:Int):=fI
   obtain rfl:k=x.rules.length:=by omega
   intro b3 hf
   have uV:=hT.mono (mLt aQ (Mem.le_add hf [.slice ak x.rules.length ck]))
   refine⟨.inl rfl,vs,[.slice ak x.rules.length ck],by rw[hT.1];omega,rfl,uV.2.1,.inr ⟨b3,0,rfl,Zaw m3 b3 _⟩,by simp[Value.oneCell'],by omega,by omega,λa' c' m' hm' hr'=>⟨rfl,s.states.length - (i+1),by omega,i+1,a',c',vs++[.slice ak x.rules.length ck],by omega,?_,rfl,mLt bH (mLt aQ (mLt (Mem.le_add hf _) hm')),⟨by rw[zA1,hT.1];rfl,hr',λj y hj hy=>?_⟩,rfl⟩⟩
   ·rw[hw i (by omega),List.take_length]
    have:T0s s (i+1)=T0s s i+ZtJ x:=ZeI ZtJ hx
    rw[this];rfl
   ·by_cases jl:j < i
    ·obtain⟨aj,cj,h1,h2⟩:=uV.2.2 j y jl hy
     exact⟨aj,cj,by rw[zA5 (by rw[hT.1];omega)];exact h1,h2.mono hm'⟩
    ·obtain rfl:j=i:=by omega
     obtain rfl:x=y:=by rw[hx]at hy;exact Option.some.inj hy
     exact⟨ak,ck,by rw[zA4 (by rw[hT.1];omega),hT.1];simp,aF.mono (mLt (Mem.le_add hf _) hm')⟩
 ·have bM:¬(i:Int) < (s.states.length:Int):=bM
  obtain rfl:i=s.states.length:=by omega
  exact⟨m2,fH,Mem.le_refl _,A,C,vs,rfl,hT⟩
theorem ZBc{m:Mem}{a:Option Addr}{vs:List Value}(h:rowRd m a vs){k:Nat}{v:Value}(hk:vs[k]?=some v):∃b o,a=some ⟨b,o,none⟩/\m.c b (o+k*1)=some v:=by
 rcases h with h|⟨b,o,ha,h⟩
 ·rw[h]at hk;simp at hk
 ·exact⟨b,o,ha,by rw[Nat.mul_one];exact h k v hk⟩
theorem ZAW(s:Sc)(ta:Option Addr)(tc:Nat)(vs:List Value)(p:Pl)(m:Mem)(hr:RepC m s)(hT:TotI s s.states.length ta vs m)(hp:ZA8 s p):
  CX Tryz.prog 74 #[s.v,.slice ta s.states.length tc,.agg p.cs.toArray] m [] (Ret (.int .i64 (atS s p))):=by
 obtain⟨pv,ps,pr,pa,pp⟩:=p
 dsimp only[ZA8]at hp
 dsimp only[Pl.cs]
 show CX Tryz.prog 74 #[s.v,.slice ta s.states.length tc,.agg #[.int .i64 pv,.int .i64 ps,.int .i64 pr,.int .i64 pa,.int .i64 pp]] m [] _
 apply Zpc
 intro b m1 aB _ b1 m2 aH _
 have hm:=mLt aB aH
 have gD:=hr.vlen
 have fO:=hr.len
 unfold few at gD fO
 rcases hp with⟨i,rfl,v,hv⟩|⟨hv,hp⟩
 ·refine ZrH (decide_eq_true (Int.natCast_nonneg i)) (ZaC (Zpo s i v m2 (hr.mono hm) hv) λm3 aQ=>Zac (mLt hm aQ) ?_)
  show Value.int _ _=Value.int _ _
  unfold atS;rw[if_pos (Int.natCast_nonneg i),zA8,hv]
 have hv:pv < 0:=hv
 refine ZdO (decide_eq_false (by omega)) ?_
 rcases hp with hs|⟨i,rfl,x,hx,hp⟩
 ·have hs:ps < 0:=hs
  refine ZrH (decide_eq_true hs) (ZaC (Zwc s (hr.mono hm)) λm3 aQ=>Zac (mLt hm aQ) ?_)
  show Value.int _ _=Value.int _ _
  unfold atS;rw[if_neg (by show ¬pv ≥ 0;omega),if_pos hs]
 refine ZdO (decide_eq_false (by omega)) ?_
 have xb:=(zA0 hx).1
 have at0:∀q:Pl,q.v=pv->q.s=i->atS s q=if q.r < 0 then Zde s i x else match x.rules[q.r.toNat]? with
   | none=>0
   | some r=>if q.a < 0 then ZcM s r (totals s i q.r.toNat)else match r.acts[q.a.toNat]? with
    | none=>0
    | some a=>if q.p < 0 then ZaO s r a else match a.parts[q.p.toNat]? with
     | none=>0
     | some z=>ZcW s r a.parts q.p.toNat z:=λq h1 h2=>by
  unfold atS;rw[h1,h2,if_neg (by omega),if_neg (by omega),zA8,hx]
  rfl
 rcases hp with hs|⟨k,rfl,r,fV,hp⟩
 ·have hs:pr < 0:=hs
  refine ZrH (decide_eq_true hs) (ZaC (Zwd s i x m2 (hr.mono hm) hx) λm3 aQ=>Zac (mLt hm aQ) ?_)
  show Value.int _ _=Value.int _ _
  rw[at0 _ rfl rfl,if_pos hs]
 refine ZdO (decide_eq_false (by omega)) ?_
 have mH:=zA2 hx
 have dB:=(hr.all x mH).mono hm
 have kM:=dB.len
 unfold few at kM
 have nC:=(zA0 fV).1
 have rx:=zA2 fV
 have ia:=dB.all r rx
 have nV:=ia.len
 unfold few at nV
 obtain⟨b2,o2,ti,iw⟩:=Zap Sta.len (hr.row.mono hm) hx (by omega)
 obtain⟨b3,o3,hO,kP⟩:=Zap Ru.len dB.row fV (by omega)
 have at1:∀q:Pl,q.v=pv->q.s=i->q.r=k->atS s q=if q.a < 0 then ZcM s r (totals s i k)else match r.acts[q.a.toNat]? with
    | none=>0
    | some a=>if q.p < 0 then ZaO s r a else match a.parts[q.p.toNat]? with
     | none=>0
     | some z=>ZcW s r a.parts q.p.toNat z:=λq h1 h2 h3=>by
  rw[at0 q h1 h2,h3,if_neg (by omega),zA8,fV]
 refine⟨b2,o2,ti,⟨by omega,by omega⟩,_,iw 1 _ rfl,Zaa rfl ⟨b3,o3,hO,⟨by omega,by show(k:Int) < (x.rules.length:Int);omega⟩,_,_,_,_,_,_,_,_,_,_,_,_,_,_,_,_,kP,λb4=>Zaa rfl ?_⟩⟩
 rcases hp with hs|⟨j,rfl,a,j0,hp⟩
 ·have hs:pa < 0:=hs
  refine ZrH (decide_eq_true hs) ?_
  obtain⟨ak,ck,pm,qi⟩:=hT.2.2 i x xb hx
  obtain⟨b5,o5,oS,s9⟩:=ZBc (hT.2.1.mono hm) pm
  have dA:(ZwM s i x.rules.length)[k]?=some (.int .i64 (totals s i k)):=by
   unfold ZwM;rw[List.getElem?_map,List.getElem?_range nC];rfl
  obtain⟨b6,o6,jv,p8⟩:=ZBc (qi.mono hm) dA
  refine⟨λ_ _ _=>Ret (.int .i64 (ZcM s r (totals s i k))),b5,o5,oS,⟨by omega,by omega⟩,_,s9,Zaa rfl ⟨b6,o6,jv,⟨by omega,by show(k:Int) < (x.rules.length:Int);omega⟩,_,p8,_,rfl,Zx9 s r (totals s i k) m2 (hr.mono hm) ia,λv _ _ e=>by rw[show v=_ from e];rfl,λn m3 aQ hn M hM _=>Zac (mLt hm hM) ?_⟩⟩
  obtain rfl:n=ZcM s r (totals s i k):=by cases hn;rfl
  show Value.int _ _=Value.int _ _
  rw[at1 _ rfl rfl rfl,if_pos hs]
 refine ZdO (decide_eq_false (by omega)) ?_
 have sI:=(zA0 j0).1
 have xc:=zA2 j0
 have kW:=ia.all a xc
 obtain⟨b5,o5,oS,ry⟩:=Zap Ac.len ia.row j0 (by omega)
 rcases hp with hs|⟨n,rfl,z,hz⟩
 ·have hs:pp < 0:=hs
  refine ZrH (decide_eq_true hs) ⟨λ_ _ _=>Ret (.int .i64 (ZaO s r a)),Zaa rfl ⟨b5,o5,oS,⟨by omega,by show(j:Int) < (r.acts.length:Int);omega⟩,_,_,_,_,_,_,_,_,ry,_,rfl,ZtI s r a m2 (hr.mono hm) ia kW,λv _ _ e=>by rw[show v=_ from e];rfl,λn m3 aQ hn M hM _=>Zac (mLt hm hM) ?_⟩⟩
  obtain rfl:n=ZaO s r a:=by cases hn;rfl
  show Value.int _ _=Value.int _ _
  have tj:¬(j:Int) < 0:=by omega
  have rp:r.acts[(j:Int).toNat]?=some a:=by rw[zA8];exact j0
  rw[at1 _ rfl rfl rfl]
  simp only[tj,rp,hs,if_true,if_false]
 ·refine ZdO (decide_eq_false (by omega)) ⟨λ_ _ _=>Ret (.int .i64 (ZcW s r a.parts n z)),Zaa rfl ⟨b5,o5,oS,⟨by omega,by show(j:Int) < (r.acts.length:Int);omega⟩,_,ry 2 _ rfl,_,rfl,Zyb s r a.parts a.pa a.pc n z m2 (hr.mono hm) ia kW.n kW.row kW.all hz,λv _ _ e=>by rw[show v=_ from e];rfl,λn' m3 aQ hn M hM _=>Zac (mLt hm hM) ?_⟩⟩
  obtain rfl:n'=ZcW s r a.parts n z:=by cases hn;rfl
  show Value.int _ _=Value.int _ _
  have tj:¬(j:Int) < 0:=by omega
  have rp:r.acts[(j:Int).toNat]?=some a:=by rw[zA8];exact j0
  have uW:¬(n:Int) < 0:=by omega
  have np:a.parts[(n:Int).toNat]?=some z:=by rw[zA8];exact hz
  rw[at1 _ rfl rfl rfl]
  simp only[tj,rp,uW,np,if_false]
  rw[zA8]
end Go.Proofs.YtdopppmkbkkmiaaGreatDoor
namespace Go.Proofs.YtdopppmkbkkmiaaGreatDoor
open Go Go.Eng Go.Rx Go.Proofs Go.RowKit Go.Shelf
set_option maxRecDepth 100000
section
variable {P:Program} {ρ:Ren}
end
end Go.Proofs.YtdopppmkbkkmiaaGreatDoor
namespace Go.Proofs.YtdopppmkbkkmiaaGreatDoor
open Go Go.Eng Go.Proofs Go.RowKit
open Go.Value (int slice agg bool string tuple func)
open Go.IntKind (u8 u64 i64)
set_option maxRecDepth 100000
end Go.Proofs.YtdopppmkbkkmiaaGreatDoor
namespace Go.Proofs.YtdopppmkbkkmiaaGreatDoor
open Go Go.Eng Go.Rx Go.Proofs Go.RowKit
set_option maxRecDepth 100000
structure Il where
 a:Option Addr
 c:Nat
 l:List Int
def Il.cs(y:Il):List Value:=[.slice y.a y.l.length y.c]
theorem Il.len(y:Il):y.cs.length=1:=rfl
theorem Il.one(y:Il):∀u∈y.cs,u.oneCell'=true:=λu hu=>by
 obtain rfl:u=_:=by simpa[Il.cs]using hu
 rfl
end Go.Proofs.YtdopppmkbkkmiaaGreatDoor
namespace Go.Proofs.YtdopppmkbkkmiaaGreatDoor
open Go Go.Eng Go.Proofs Go.RowKit
open Go.Value (int slice agg bool string tuple func)
open Go.IntKind (u8 u64 i64)
set_option maxRecDepth 100000
noncomputable def ZtN:Env:={ EB with
 dr:=swI [] [(4,[⟨0,[10],[],none,[],[]⟩,⟨1,[10],[],none,[0],[]⟩,dO 2 [],dO 3 [0,1,2],dO 4 [0,1,2,3],dO 5 [0,1,2,3,4],dO 6 [],⟨7,[7],[],none,[],[]⟩]),(7,[⟨0,[10],[],none,[],[]⟩,⟨1,[10],[],none,[0],[]⟩,dO 2 [],dO 3 [0,1,2],dO 4 [0,1,2,3],dO 5 [0,1,2,3,4],dO 6 [],⟨7,[7],[],none,[],[]⟩,dO 8 [7]])]
 frzNew:=[4,7]
 thaw:=true
 stAt:=swI none [(27,some 999),(41,some 999)]
 last:=swI false [(4,true),(7,true)]
 lastK:=swI 1 [(4,2),(7,2)]
 kF:=true }
theorem ZqK(aA:Int)(aM:Option Addr)(aK aN:Nat)(aJ:Option Addr)(aI aO:Nat)(p1 p2 qj:Int)(qk ql:Bool)(qm qn qo qp qq qr qs:Int)(kX:Option Addr)(kY kZ:Nat)(mW:ByteArray)(mX:Int)(la:Option Addr)(lb lc:Nat)(mY:ByteArray)(mZ:Int)(m:Mem)(R:RT)(h:
 lE (Int.toNat p2*16) λyL=>lV [int i64 aA,slice aM aK aN,slice aJ aI aO] λxL=>lV [int u8 qj,bool qk,bool ql,int u8 qm,int u64 qn,int u64 qo,int u64 qp,int u64 qq,int i64
 qr,int i64 qs,slice kX kY kZ,string mW,int i64 mX,slice la lb lc,string mY,int i64 mZ] λae=>fzM m xL λb m'=>m.free b->(∀(b' o:Nat)(u:Value),m' b' o=some u->m b' o
 = some u\/b'=b)->Mem.k m b=none->fzM m' ae λaa aj=>m'.free aa->(∀(b' o:Nat)(u:Value),aj b' o=some u->m' b' o=some u\/b'=aa)->Mem.k m' aa=none->∀(a8:Nat),kB pG 42 [agg (.mk xL),int i64 p1,int
 i64 p2] aj λak m'=>br (!ak) (rtM m m' R (tuple (.mk [agg (.mk [int i64 0,slice none 0 0,slice none 0 0]),int i64 250]))) (∃R_1,True/\CX pG 13 (.mk [agg (.mk xL)]) m' [] R_1/\Za6 (.agg [.int i64,.slice,.slice]) R_1/\
 ∀n a al c af ag am ab,lX (agg (.mk [int i64 n,slice a al c,slice af ag am])) λah=>m'.le ab->R_1 ah ab []->∀(a9:Nat),atA af λan o=>Zag p1 ag/\∃(v:Value),ab an (o+Int.toNat p1*2+1)=some v/\chk
 (Zbl v) (atA (slA v) λac o=>Zag p2 (slN v)/\(∃(vs:List Value),vs.length=16/\ab.reads ac (o+yL) vs)/\m.free ac/\true=true/\aa≠ac/\b≠ac/\kB pG 39 [ah] (Mem.upd ab ac (o+yL) ae) λao m'=>br (!ao)
 (rtM m m' R (tuple (.mk [agg (.mk [int i64 0,slice none 0 0,slice none 0 0]),int i64 5]))) (∃(f:Fx),atA af λap o=>Zag p1 ag/\∃(v:Value),m' ap (o+Int.toNat p1*2+1)=some v/\∃R_2,R_2=f 8 [agg (.mk
 ae)] m'/\CX pG 41 (.mk [agg (.mk ae)]) m' [] R_2/\Za6 (.agg [.int u8,.bool,.bool,.int u8,.int u64,.int u64,.int u64,.int u64,.int i64,.int i64,.slice,.str,.int i64,.slice,.str,.int i64]) R_2/\∀n (aq ar:Bool)
 au av aw ax ay az a0 a a1 c s a2 a3 a4 a5 a6 a7 ai,lV [int u8 n,bool aq,bool ar,int u8 au,int u64 av,int u64 aw,int u64 ax,int u64 ay,int i64 az,int i64 a0,slice a a1 c,string s,int i64 a2,slice a3 a4 a5,string a6,
 int i64 a7] λxL=>m'.le ai->R_2 (agg (.mk xL)) ai []->∀M,m'.le M->ai.le M->chk (Zbl v) (atA (slA v) λad o=>Zag p2 (slN v)/\(∃(vs:List Value),vs.length=16/\M.reads ad (o+yL) vs)/\m.free ad/\true =
 true/\aa≠ad/\b≠ad/\rtM m (Mem.upd M ad (o+yL) xL) R (tuple (.mk [ah,int i64 0]))))))):CX Tryz.prog 11 #[.agg #[.int .i64 aA,.slice aM aK aN,.slice aJ aI aO],.int .i64 p1,.int .i64 p2,.agg #[.int .u8 qj,.bool qk,.bool ql,.int .u8 qm,.int .u64 qn,.int .u64 qo,.int .u64 qp,.int .u64 qq,.int .i64 qr,.int .i64 qs,.slice kX kY kZ,.string mW,.int .i64 mX,.slice la lb lc,.string mY,.int .i64 mZ]] m [] R:=
 Zad (E:=ZtN) Zal mix Tryz.func11 (by kernel_rfl) (Eq.mp (by kernel_rfl) h)
end Go.Proofs.YtdopppmkbkkmiaaGreatDoor
namespace Go.Proofs.YtdopppmkbkkmiaaGreatDoor
open Go Go.Eng Go.Rx Go.Proofs Go.RowKit
set_option maxRecDepth 100000
def Zz6(s:Sc)(i k:Nat)(r:Ru):Value->Mem->List (List Value)->Prop:=λv m' _=>∃s':Sc,v=.tuple #[s'.v,.int .i64 0]/\s'.er=(ZkM s i k r).er/\RepC m' s'
theorem ZqL{s:Sc}{i k:Nat}{r:Ru}:∀(v:Value)(m':Mem) (css:List (List Value)),Zz6 s i k r v m' css->Shape.fits (.tup [.agg [.int .i64,.slice,.slice],.int .i64]) v=true:=λv _ _ ⟨t,e,_⟩=>by rw[e];rfl
theorem Zyd{s:Sc}{n e e':Int}{a a1:Option Addr}{p c p1 c1:Nat}(h:Value.tuple #[.agg #[.int .i64 n,.slice a p c,.slice a1 p1 c1],.int .i64 e']=.tuple #[s.v,.int .i64 e]):(n=s.n/\a=s.va/\p=s.vars.length/\c=s.vc/\a1=s.sa/\p1=s.states.length/\c1=s.sc)/\e'=e:=by
 simpa[Sc.v,and_assoc]using h
set_option maxHeartbeats 1000000 in
theorem ZzA(s:Sc)(i k:Nat)(r:Ru)(m:Mem)(hr:RepC m s)(hl:s.light=true){x:Sta}(hx:s.states[i]?=some x)(hk:k < x.rules.length)(hq:RepR m r)(oP:(ZkM s i k r).light=true):CX Tryz.prog 11 #[s.v,.int .i64 i,.int .i64 k,.agg r.cs.toArray] m [] (Zz6 s i k r):=by
 have hi:=(zA0 hx).1
 have fO:s.states.length<=100000:=hr.len
 have jB:x.rules.length<=100000:=(hr.all x (zA2 hx)).len
 have ij:Zie s i k=true:=by
  simp only[Zie,hl,zA8,hx,Bool.true_and,zA7,decide_eq_true_eq]
  omega
 have aG:LtR r:=by
  have h2:ZkM s i k r=⟨s.n,s.va,s.vc,s.vars,s.sa,s.sc,s.states.set i (ZpD x k r)⟩:=by unfold ZkM;rw[hx]
  refine Zvq oP (ZpD x k r) (by rw[h2];exact List.mem_iff_getElem?.2 ⟨i,List.getElem?_set_self hi⟩) r ?_
  exact List.mem_iff_getElem?.2 ⟨k,List.getElem?_set_self hk⟩
 apply ZqK
 intro b m1 aB ou iF xX hZ b1 m2 aH tl xd tn xe b2
 have fH:=mLt aB aH
 have hc:=Zv7 s i k m2 (hr.mono fH)
 rw[ij]at hc
 refine Zah hc λm3 aQ=>ZdO rfl ?_
 have cT:=mLt fH aQ
 refine Zak (Zx7 s m3 (hr.mono cT) hl) Zv6 ?_
 rintro n a p c a1 p1 c1 m4 bJ ⟨s',hv,oN,cY,eJ⟩ b4
 obtain⟨rfl,rfl,rfl,rfl,rfl,rfl,rfl⟩:=Zzy hv
 obtain⟨x',hx',oO⟩:=ZAG oN hx
 obtain⟨cZ,dB,sM⟩:=Zru oO
 have hk':k < x'.rules.length:=by omega
 have hi':=(zA0 hx').1
 rcases eJ with h0|⟨bS,μ,eJ⟩
 ·rw[h0]at hi';simp at hi'
 obtain⟨pQ,⟨xY,oW⟩,bH,sG⟩:=eJ.all i x' hx'
 rcases oW with h0|⟨bR,mw,ov,xf,kC⟩
 ·rw[h0]at hk';simp at hk'
 have aF:(μ i).reads bR 0 (x'.rules.map Ru.cs).flatten:=by
  rcases pQ.row with h|⟨b',o',ha,h⟩
  ·have:=congrArg List.length h
   rw[ZaU Ru.len]at this;simp at this;omega
  ·rw[mw]at ha;cases ha;exact h
 have uX:(x'.rules.map Ru.cs).flatten.length=x'.rules.length*16:=ZaU Ru.len _
 have jl:¬(μ i).free bR:=λhf=>by
  have:=aF 0 _ (zA3 (by omega))
  rw[hf]at this;cases this
 have sH:bS≠bR:=λe=>jl (e ▸ sG)
 have dW:¬m3.free b:=λhf=>by
  have:=aQ _ _ _ (aH _ _ _ (ou 0 _ rfl))
  rw[hf]at this;cases this
 have qt:¬m3.free b1:=λhf=>by
  have:=aQ _ _ _ (tl 0 _ rfl)
  rw[hf]at this;cases this
 have tq:=mLt bH (Zjf m3 m4)
 have cO:rowRd m4 (some ⟨bR,0,none⟩) (x'.rules.map Ru.cs).flatten:=.inr ⟨bR,0,rfl,aF.mono tq⟩
 obtain⟨bs0,o0,oh,dF⟩:=Zap Sta.len cY.row hx' (by omega)
 rw[eJ.sa]at oh
 simp only[Option.some.injEq,Addr.mk.injEq,and_true]at oh
 obtain⟨rfl,rfl⟩:=oh
 have bX:∀M:Mem,(m4.off λq=>q=bR).le M->M bS (0+i*2+1)=some (.slice x'.ra x'.rules.length x'.rc):=λM hM=>hM _ _ _ (by
  rw[Mem.off_at (Y:=λq=>q=bR) sH];exact(Zjf m3 m4) _ _ _ (dF 1 _ rfl))
 have oM:m.le (m4.off λq=>q=bR):=Zov (mLt cT bJ) λq e=>⟨e ▸ Zb6 cT ov,e ▸ Zl6 cT xf⟩
 have ld:∀(M:Mem)(o:Nat)(vs:List Value),(M.off λq=>q=bR).le (M.upd bR o vs):=λM o vs=>⟨λb o v hv=>by
  by_cases hb:b=bR
  ·rw[Mem.off_free (Y:=λq=>q=bR) hb]at hv;cases hv
  ·rw[Mem.upd_other _ hb];exact Mem.off_le M _ _ _ _ hv,λb e he=>(Mem.off_le M (λq=>q=bR)).k b e he⟩
 obtain⟨bs1,o1,kw,oa⟩:=Zap Ru.len cO (zA3 hk') (by omega)
 cases kw
 refine⟨bS,0,eJ.sa,⟨by omega,by omega⟩,_,bX m4 (Mem.off_le _ _),Zaa rfl ⟨bR,0,mw,⟨by show(0:Int)<=k;omega,by show(k:Int) < (x'.rules.length:Nat);omega⟩,⟨_,Ru.len _,oa⟩,Zb6 cT ov,rfl,λe=>qt (e ▸ ov),λe=>dW (e ▸ ov),?_⟩⟩
 obtain⟨M1,iP⟩:∃M,M=m4.upd bR (0+k*16) r.cs:=⟨_,rfl⟩
 have lf:(m4.off λq=>q=bR).le M1:=by rw[iP];exact ld m4 _ _
 have jf:rowRd M1 (some ⟨bR,0,none⟩) ((x'.rules.set k r).map Ru.cs).flatten:=by rw[iP];exact ZrA Ru.len (by omega) cO hk'
 have qu:=ZuC cY eJ hx' mw hk' kC lf jf (hq.mono (mLt oM lf))
 have tr:=ZrB oN hx oO (r:=r) (r':=r) rfl k
 have xg:s'.v=(⟨s'.n,s'.va,s'.vc,s'.vars,s'.sa,s'.sc,s'.states.set i (ZpD x' k r)⟩:Sc).v:=by simp only[Sc.v,List.length_set]
 have hL:=Zda _ M1 qu
 rw[Zox tr,oP,<-xg,iP]at hL
 refine Zah hL λm5 cH=>ZdO rfl ?_
 have cH:M1.le m5:=by rw[iP];exact cH
 have jP:=mLt lf cH
 have mT:=mLt oM jP
 refine⟨λ_ _ _=>_,bS,0,eJ.sa,⟨by omega,by omega⟩,_,bX m5 jP,_,rfl,Zx6 r m5 (hq.mono mT) aG,(λv _ _ ⟨y,h,_⟩=>by rw[h];rfl),?_⟩
 intros
 refine Zpj λys=>?_
 rintro iL ⟨r',hv',tu,tw⟩ M hM xh
 obtain rfl:ys=r'.cs:=by simpa using hv'
 have uR:=mLt mT hM
 have nb:=(jf.mono cH).mono hM
 obtain⟨bs2,o2,ti,jV⟩:=Zap Ru.len nb (show(x'.rules.set k r)[k]?=some r from List.getElem?_set_self hk') (by omega)
 cases ti
 refine Zaa rfl ⟨bR,0,mw,⟨by show(0:Int)<=k;omega,by show(k:Int) < (x'.rules.length:Nat);omega⟩,⟨_,Ru.len _,jV⟩,Zb6 cT ov,rfl,λe=>qt (e ▸ ov),λe=>dW (e ▸ ov),?_⟩
 have qv:(m4.off λq=>q=bR).le (M.off λq=>q=bR):=by
  refine⟨λb o v hv=>?_,λb e he=>?_⟩
  ·by_cases hb:b=bR
   ·rw[Mem.off_free (Y:=λq=>q=bR) hb]at hv;cases hv
   ·rw[Mem.off_at (Y:=λq=>q=bR) hb];exact(mLt jP hM) _ _ _ hv
  ·by_cases hb:b=bR
   ·rw[Mem.off_kn (Y:=λq=>q=bR) hb]at he;cases he
   ·rw[Mem.off_k (Y:=λq=>q=bR) hb];exact(mLt jP hM).k _ _ he
 have nf:=mLt qv (ld M (0+k*16) r'.cs)
 have tx:¬m5.free bR:=λhf=>by
  rcases jf.mono cH with h|⟨b',o',ha,h⟩
  ·have:=congrArg List.length h
   rw[ZaU Ru.len,List.length_set]at this;simp at this;omega
  ·cases ha
   have:=h 0 _ (zA3 (by rw[ZaU Ru.len,List.length_set];omega))
   rw[hf]at this;cases this
 have hr':RepR (M.upd bR (0+k*16) r'.cs) r':=tw.mono (mLt (Zov (Y:=λq=>q=bR) (mLt (Zjf _ _) xh) λq e=>⟨by rw[show q=bR from e];exact Zqk tx,rfl⟩) (ld M _ _))
 have dE:rowRd (M.upd bR (0+k*16) r'.cs) (some ⟨bR,0,none⟩) ((x'.rules.set k r').map Ru.cs).flatten:=by
  have:=ZrA (y:=r') (k:=k) Ru.len (by omega) nb (by rw[List.length_set];exact hk')
  rwa [List.set_set]at this
 have qw:=ZuC cY eJ hx' mw hk' kC nf dE hr'
 exact ZaJ (mLt oM nf) ⟨_,by simp only[Sc.v,List.length_set],ZrB oN hx oO tu k,qw⟩
theorem ZqM(L:List Pl):(L.map Pl.cs).flatten.length=L.length*5:=by
 induction L with
 | nil=>rfl
 | cons x l ih=>rw[List.map_cons,List.flatten_cons,zA1,ih,List.length_cons,Nat.succ_mul];show 5+_=_;omega
def PI(L:List Pl)(v t:Value)(m:Mem):Prop:=∃a c a1 n1 c1,v=.slice a L.length c/\t=.slice a1 n1 c1/\((a1=a/\n1=L.length/\c1=c)\/c < L.length+1)/\rowRd m a (L.map Pl.cs).flatten
theorem PI.mono{L:List Pl}{v t:Value}{m m':Mem}(h:PI L v t m)(hm:m.le m'):PI L v t m':=by
 obtain⟨a,c,a1,n1,c1,h1,h2,h3,h4⟩:=h
 exact⟨a,c,a1,n1,c1,h1,h2,h3,h4.mono hm⟩
theorem PI.app{L:List Pl}{a a1:Option Addr}{n c n1 c1:Nat}{m:Mem}{b:Nat}{Q:Option Addr->Nat->Mem->Prop}(z:Pl)(h:PI L (.slice a n c) (.slice a1 n1 c1) m)(hb:L.length<=30000)(hf:m.free b)
  (k:∀(a':Option Addr)(c':Nat)(m':Mem),m.le m'->PI (L++[z]) (.slice a' (n+1) c') (.slice a' (n+1) c') m'->Q a' c' m'):
  (Tok.mk (.slice a1 n1 c1) 5=Tok.mk (.slice a n c) 5\/Value.slice a n c=.slice none 0 0\/c < n+1)/\∃xs ys:List Value,xs.length=n*5/\ys.length=1*5/\rowRd (m.add b z.cs) a xs/\rowRd (m.add b z.cs) (some ⟨b,0,none⟩) ys/\(∀u∈ys,u.oneCell'=true)/\
   (n+1)*40<=140737488355328/\n+1<=9223372036854775807/\∀(a':Option Addr)(c':Nat)(m':Mem),(m.add b z.cs).le m'->rowRd m' a' (List.append xs ys)->Q a' c' m':=by
 obtain⟨a0,c0,a10,n10,c10,h1,h2,h3,h4⟩:=h
 simp only[Value.slice.injEq]at h1 h2
 obtain⟨rfl,rfl,rfl⟩:=h1
 obtain⟨rfl,rfl,rfl⟩:=h2
 have bH:m.le (m.add b z.cs):=Mem.le_add hf _
 refine⟨?_,(L.map Pl.cs).flatten,z.cs,ZqM L,rfl,h4.mono bH,.inr ⟨b,0,rfl,Zaw m b _⟩,?_,by omega,by omega,λa' c' m' hm' hr'=>k a' c' m' (mLt bH hm') ⟨a',c',a',L.length+1,c',?_,rfl,.inl ⟨rfl,?_,rfl⟩,?_⟩⟩
 ·rcases h3 with⟨e1,e2,e3⟩|h3
  ·rw[e1,e2,e3];exact .inl rfl
  ·exact .inr (.inr h3)
 ·intro u hu
  simp only[Pl.cs,List.mem_cons,List.not_mem_nil,or_false]at hu
  rcases hu with rfl|rfl|rfl|rfl|rfl <;> rfl
 ·rw[zA1];rfl
 ·rw[zA1];rfl
 ·rw[List.map_append,List.flatten_append]
  have:(List.map Pl.cs [z]).flatten=z.cs:=by simp
  rw[this];exact hr'
def ZuP(s:Sc):Value->Mem->List (List Value)->Prop:=λv m _=>∃a c,v=.slice a s.places.length c/\rowRd m a (s.places.map Pl.cs).flatten
theorem Zpp{s}:∀(v:Value)(m':Mem) (css:List (List Value)),ZuP s v m' css->Shape.fits .slice v=true:=λv _ _ ⟨_,_,e,_⟩=>by rw[e];rfl
set_option maxHeartbeats 4000000 in
theorem ZtO(s:Sc)(m:Mem)(hr:RepC m s):CX Tryz.prog 73 #[s.v] m [] (ZuP s):=by
 apply Zks
 intro b m1 aB _
 have gD:=hr.vlen
 have fO:=hr.len
 unfold few at gD fO
 refine Zah (Zda s m1 (hr.mono aB)) λm2 aH=>Zab (λhl=>?_) (λhl b2 jr=>?_)
 ·have hl:s.light=false:=by simpa using hl
  have he:s.places=[]:=by unfold Sc.places;rw[hl];rfl
  exact Zac (mLt aB aH) ⟨none,0,by rw[he];rfl,by rw[he];exact .inl rfl⟩
 have hl:s.light=true:=by simpa using hl
 have kr:m2.le (m2.add b2 (Pl.cs top)):=Mem.le_add jr _
 have fH:=mLt aB (mLt aH kr)
 have j4:=ZhY s
 have oH:=Zg1 hl
 rw[oH,List.length_cons,zA1,show(Zdp s.vars.length Vf).length=s.vars.length from ZfX _ _]at j4
 have hw:∀k:Nat,k<=100000->IntKind.i64.wrap ((k:Int)+1)=((k+1:Nat):Int):=λk hk=>by rw[Zam (by omega) (by omega)];rfl
 have start:PI [top] (.slice (some ⟨b2,0,none⟩) 1 1) (.slice none 0 0) (m2.add b2 (Pl.cs top)):=⟨_,1,_,_,_,rfl,rfl,.inr (by decide),.inr ⟨b2,0,rfl,by simpa using Zaw m2 b2 (Pl.cs top)⟩⟩
 refine⟨λxs _ tks m' q=>∃(i:Nat)(v t:Value),i<=s.vars.length/\xs=[v,.int .i64 i]/\tks=[t]/\PI (top::Zdp i Vf) v t m'/\q=s.vars.length - i,⟨s.vars.length,0,_,_,by omega,rfl,rfl,start,rfl⟩,?_⟩
 rintro a n c i' a1 n2 c1 m3 q aQ ⟨i,v,t,hi,hx,ht,hP,rfl⟩
 simp only[List.cons.injEq,Value.int.injEq,and_true,true_and]at hx ht
 obtain⟨rfl,rfl⟩:=hx
 subst ht
 have cT:=mLt fH aQ
 have uY:(Zdp i Vf).length=i:=ZfX _ _
 refine ZaE (λaG b3 gZ=>?_) (λbM=>?_)
 ·have aG:(i:Int) < (s.vars.length:Int):=aG
  refine PI.app ⟨i,-1,-1,-1,-1⟩ hP (by rw[List.length_cons,uY];omega) gZ λa' c' m' hm' hP'=>⟨rfl,s.vars.length - (i+1),by omega,i+1,_,_,by omega,by rw[hw i (by omega)],rfl,?_,rfl⟩
  rw[Zbf];exact hP'
 have bM:¬(i:Int) < (s.vars.length:Int):=bM
 obtain rfl:i=s.vars.length:=by omega
 generalize hB:top::Zdp s.vars.length Vf=B at hP
 have xZ:B.length=s.vars.length+1:=by rw[<-hB,List.length_cons,uY]
 refine⟨λxs _ tks m' q=>∃(i:Nat)(v t:Value),i<=s.states.length/\xs=[v,.int .i64 i]/\tks=[t]/\PI (B++Zdp i (Ff s)) v t m'/\q=s.states.length - i,⟨s.states.length,0,_,_,by omega,rfl,rfl,by simpa[Zdp]using hP,rfl⟩,?_⟩
 rintro a n c i' a1 n2 c1 m4 q bJ ⟨i,v,t,hi,hx,ht,hP,rfl⟩
 simp only[List.cons.injEq,Value.int.injEq,and_true,true_and]at hx ht
 obtain⟨rfl,rfl⟩:=hx
 subst ht
 have kN:=mLt cT bJ
 refine ZaE (λaG=>?_) (λbM=>?_)
 ·have aG:(i:Int) < (s.states.length:Int):=aG
  obtain⟨x,hx⟩:=Zet (show i < s.states.length by omega)
  have dB:=hr.all x (zA2 hx)
  have kM:=dB.len
  unfold few at kM
  have hF:Ff s i=plS i x:=by unfold Ff;rw[hx]
  have cA:(Zdp i (Ff s)).length+(plS i x).length<=(Zdp s.states.length (Ff s)).length:=by
   have:=Zrh (show i+1<=s.states.length by omega) (Ff s)
   rw[Zbf,zA1,hF]at this;exact this
  rw[Zon,List.length_cons]at cA
  obtain⟨b3,o3,hO,kP⟩:=Zap Sta.len (hr.row.mono kN) hx (by omega)
  refine⟨b3,o3,hO,⟨by omega,aG⟩,_,_,kP,λb4=>Zaa rfl λb5 jX=>?_⟩
  refine PI.app ⟨-1,i,-1,-1,-1⟩ hP (by rw[zA1];omega) jX λa' c' m5 cH hP=>Zaa rfl ?_
  have mT:=mLt kN cH
  generalize uZ:B++Zdp i (Ff s)=L1 at hP
  have lF:L1.length=B.length+(Zdp i (Ff s)).length:=by rw[<-uZ,zA1]
  refine⟨λxs _ tks m' q=>∃(k:Nat)(v t:Value),k<=x.rules.length/\xs=[v,.int .i64 k]/\tks=[t]/\PI (L1++(⟨-1,i,-1,-1,-1⟩::Zdp k (Gf i x))) v t m'/\q=x.rules.length - k,⟨x.rules.length,0,_,_,by omega,rfl,rfl,by simpa[Zdp]using hP,rfl⟩,?_⟩
  rintro a n c k' a1 n2 c1 m6 q iL ⟨k,v,t,hk,hy,ht,hP,rfl⟩
  simp only[List.cons.injEq,Value.int.injEq,and_true,true_and]at hy ht
  obtain⟨rfl,rfl⟩:=hy
  subst ht
  have lL:=mLt mT iL
  refine ZaE (λeI=>?_) (λfI=>?_)
  ·have eI:(k:Int) < (x.rules.length:Int):=eI
   obtain⟨r,fV⟩:=Zet (show k < x.rules.length by omega)
   have ia:=dB.all r (zA2 fV)
   have nV:=ia.len
   unfold few at nV
   have hG:Gf i x k=plR i k r:=by unfold Gf;rw[fV]
   have eF:(Zdp k (Gf i x)).length+(plR i k r).length<=(Zdp x.rules.length (Gf i x)).length:=by
    have:=Zrh (show k+1<=x.rules.length by omega) (Gf i x)
    rw[Zbf,zA1,hG]at this;exact this
   rw[Zom,List.length_cons]at eF
   obtain⟨b6,o6,jv,ol⟩:=Zap Ru.len (dB.row.mono lL) fV (by omega)
   refine Zaa rfl ⟨b6,o6,jv,⟨by omega,eI⟩,_,_,_,_,_,_,_,_,_,_,_,_,_,_,_,_,ol,λb7=>Zaa rfl λb8 tz=>?_⟩
   refine PI.app ⟨-1,i,k,-1,-1⟩ hP (by rw[zA1,List.length_cons];omega) tz λa' c' m7 jO hP=>Zaa rfl ?_
   have xi:=mLt lL jO
   generalize u2:L1++(⟨-1,i,-1,-1,-1⟩::Zdp k (Gf i x))=L2 at hP
   have nP:L2.length=L1.length+1+(Zdp k (Gf i x)).length:=by rw[<-u2,zA1,List.length_cons];omega
   refine⟨λxs _ tks m' q=>∃(j:Nat)(v t:Value),j<=r.acts.length/\xs=[v,.int .i64 j]/\tks=[t]/\PI (L2++(⟨-1,i,k,-1,-1⟩::Zdp j (Hf i k r))) v t m'/\q=r.acts.length - j,⟨r.acts.length,0,_,_,by omega,rfl,rfl,by simpa[Zdp]using hP,rfl⟩,?_⟩
   rintro a n c j' a1 n2 c1 m8 q iu ⟨j,v,t,hj,hy,ht,hP,rfl⟩
   simp only[List.cons.injEq,Value.int.injEq,and_true,true_and]at hy ht
   obtain⟨rfl,rfl⟩:=hy
   subst ht
   have rz:=mLt xi iu
   refine ZaE (λkV=>?_) (λlO=>?_)
   ·have kV:(j:Int) < (r.acts.length:Int):=kV
    obtain⟨y,j0⟩:=Zet (show j < r.acts.length by omega)
    have kW:=ia.all y (zA2 j0)
    have tA:=kW.n
    unfold few at tA
    have hH:Hf i k r j=plA i k j y:=by unfold Hf;rw[j0]
    have dW:(Zdp j (Hf i k r)).length+(plA i k j y).length<=(Zdp r.acts.length (Hf i k r)).length:=by
     have:=Zrh (show j+1<=r.acts.length by omega) (Hf i k r)
     rw[Zbf,zA1,hH]at this;exact this
    rw[Zol,List.length_cons,show(Zdp y.parts.length (Pf i k j)).length=y.parts.length from ZfX _ _]at dW
    obtain⟨b9,o9,xk,xl⟩:=Zap Ac.len (ia.row.mono rz) j0 (by omega)
    refine Zaa rfl ⟨b9,o9,xk,⟨by omega,kV⟩,_,_,_,_,_,_,_,_,xl,λb10=>Zaa rfl λb11 tB=>?_⟩
    refine PI.app ⟨-1,i,k,j,-1⟩ hP (by rw[zA1,List.length_cons];omega) tB λa' c' m9 oR hP=>Zaa rfl ?_
    generalize ro:L2++(⟨-1,i,k,-1,-1⟩::Zdp j (Hf i k r))=L3 at hP
    have sm:L3.length=L2.length+1+(Zdp j (Hf i k r)).length:=by rw[<-ro,zA1,List.length_cons];omega
    refine⟨λxs _ tks m' q=>∃(w:Nat)(v t:Value),w<=y.parts.length/\xs=[v,.int .i64 w]/\tks=[t]/\PI (L3++(⟨-1,i,k,j,-1⟩::Zdp w (Pf i k j))) v t m'/\q=y.parts.length - w,⟨y.parts.length,0,_,_,by omega,rfl,rfl,by simpa[Zdp]using hP,rfl⟩,?_⟩
    rintro a n c w' a1 n2 c1 m10 q xm ⟨w,v,t,x4,hy,ht,hP,rfl⟩
    simp only[List.cons.injEq,Value.int.injEq,and_true,true_and]at hy ht
    obtain⟨rfl,rfl⟩:=hy
    subst ht
    have xn:(Zdp w (Pf i k j)).length=w:=ZfX _ _
    refine ZaE (λlP b12 tC=>?_) (λlQ=>?_)
    ·have lP:(w:Int) < (y.parts.length:Int):=lP
     refine PI.app ⟨-1,i,k,j,w⟩ hP (by rw[zA1,List.length_cons,xn];omega) tC λa' c' m' hm' hP'=>⟨rfl,rfl,y.parts.length - (w+1),by omega,w+1,_,_,by omega,by rw[hw w (by omega)],rfl,?_,rfl⟩
     rw[Zbf]
     simpa[Pf]using hP'
    ·have lQ:¬(w:Int) < (y.parts.length:Int):=lQ
     obtain rfl:w=y.parts.length:=by omega
     refine⟨rfl,rfl,r.acts.length - (j+1),by omega,j+1,_,_,by omega,by rw[hw j (by omega)],rfl,?_,rfl⟩
     rw[Zbf,hH,Zol]
     rw[<-ro]at hP
     simpa using hP
   ·have lO:¬(j:Int) < (r.acts.length:Int):=lO
    obtain rfl:j=r.acts.length:=by omega
    refine⟨rfl,rfl,x.rules.length - (k+1),by omega,k+1,_,_,by omega,by rw[hw k (by omega)],rfl,?_,rfl⟩
    rw[Zbf,hG,Zom]
    rw[<-u2]at hP
    simpa using hP
  ·have fI:¬(k:Int) < (x.rules.length:Int):=fI
   obtain rfl:k=x.rules.length:=by omega
   refine⟨rfl,rfl,s.states.length - (i+1),by omega,i+1,_,_,by omega,by rw[hw i (by omega)],rfl,?_,rfl⟩
   rw[Zbf,hF,Zon]
   rw[<-uZ]at hP
   simpa using hP
 ·have bM:¬(i:Int) < (s.states.length:Int):=bM
  obtain rfl:i=s.states.length:=by omega
  obtain⟨a0,c0,a10,n10,c10,h1,h2,h3,h4⟩:=hP
  have he:B++Zdp s.states.length (Ff s)=s.places:=by rw[oH,<-hB];rfl
  rw[he]at h1 h4
  rw[h1]
  exact⟨m4,kN,Mem.le_refl _,a0,c0,rfl,h4⟩
def Zpq(s:Sc)(l:List Pl):List (Pl×Int):=l.filterMap λp=>if atS s p=0 then none else some (p,atS s p)
theorem Zf4(s:Sc):s.problems=Zpq s s.places:=rfl
def ZmZ(z:Pl×Int):Value:=.agg #[.int .i64 z.1.v,.int .i64 z.1.s,.int .i64 z.1.r,.int .i64 z.1.a,.int .i64 z.1.p,.int .i64 z.2]
theorem Zjk(s:Sc)(m:Mem):CX Tryz.prog 44 #[s.v] m [] (λv m' _=>∃b,v=.func (.func 71) #[] #[.pointer (some ⟨b,0,none⟩)]/\m'.reads b 0 s.cs):=by
 apply Zfz
 intro b m' hm hb
 exact⟨m',hm,Mem.le_refl _,b,rfl,hb⟩
theorem ZhI(s:Sc)(m:Mem)(c0b:Nat)(hr:RepC m s)(hb:m.reads c0b 0 s.cs):IX Tryz.prog 71 [] [.pointer (some ⟨c0b,0,none⟩)] m (s.problems.map λz=>[ZmZ z]):=by
 apply Zes 0 [] [] c0b 0
 intro l
 refine⟨_,_,_,hb,Zak (ZtM s m hr) Zwl ?_⟩
 rintro a n c m1 aB ⟨a',c',vs,hv,hT⟩
 simp only[Value.slice.injEq]at hv
 obtain⟨rfl,rfl,rfl⟩:=hv
 refine⟨_,_,_,hb.mono aB,Zak (ZtO s m1 (hr.mono aB)) Zpp ?_⟩
 rintro a3 n1 c1 m2 aH ⟨a',c',hv,aF⟩
 simp only[Value.slice.injEq]at hv
 obtain⟨rfl,rfl,rfl⟩:=hv
 have j4:=ZhY s
 have fH:=mLt aB aH
 refine⟨λxs _ _ m' q=>∃i:Nat,i<=s.places.length/\xs=[.int .i64 ((Zpq s (s.places.take i)).length:Nat),.int .i64 i]/\q=s.places.length - i,⟨s.places.length,0,by omega,rfl,rfl⟩,?_⟩
 rintro y n2 m3 q aQ ⟨i,hi,hx,rfl⟩
 simp only[List.cons.injEq,Value.int.injEq,and_true,true_and]at hx
 obtain⟨rfl,rfl⟩:=hx
 have cT:=mLt fH aQ
 have hw:i<=20001->IntKind.i64.wrap ((i:Int)+1)=((i+1:Nat):Int):=λhi=>by rw[Zam (by omega) (by omega)];rfl
 have hw:=hw (by omega)
 refine ZaE (λaG=>?_) (λbM=>?_)
 ·have aG:(i:Int) < (s.places.length:Int):=aG
  obtain⟨p,hp⟩:=Zet (show i < s.places.length by omega)
  have eK:Zpq s (s.places.take (i+1))=Zpq s (s.places.take i)++(if atS s p=0 then[]else[(p,atS s p)]):=by
   unfold Zpq
   rw[List.take_add_one,hp,List.filterMap_append]
   congr 1
   by_cases h:atS s p=0
   ·simp[h]
   ·simp[h]
  obtain⟨b1,o1,ha,dV⟩:=Zap (cs:=Pl.cs) (n:=5) (λ_=>rfl) (aF.mono aQ) hp (by omega)
  refine⟨b1,o1,ha,⟨by omega,aG⟩,_,_,_,_,_,dV,λb2=>Zaa rfl ⟨_,_,_,hb.mono cT,?_⟩⟩
  refine ZaC (ZAW s a c vs p m3 (hr.mono cT) (hT.mono (mLt aH aQ)) (Zg2 s p (zA2 hp))) λm4 bJ=>Zab (λh=>?_) (λh=>?_)
  ·have h:¬atS s p=0:=by
    intro e;rw[e]at h;simp at h
   rw[if_neg h]at eK
   refine⟨⟨rfl,Int.natCast_nonneg _,?_⟩,⟨s.places.length - (i+1),by omega,i+1,by omega,?_,rfl⟩,.inr rfl⟩
   ·rw[zA8]
    show(List.map (λz=>[ZmZ z]) s.problems)[(Zpq s (s.places.take i)).length]?=some [ZmZ (p,atS s p)]
    rw[List.getElem?_map]
    have:s.problems[(Zpq s (s.places.take i)).length]?=some (p,atS s p):=by
     have e:s.problems=Zpq s (s.places.take (i+1))++Zpq s (s.places.drop (i+1)):=by
      rw[Zf4];unfold Zpq;rw[<-List.filterMap_append,List.take_append_drop]
     rw[e,eK,List.append_assoc,zA4 (Nat.le_refl _)]
     simp
    rw[this];rfl
   ·rw[hw,eK,zA1];rfl
  ·have h:atS s p=0:=by simpa using h
   rw[if_pos h,List.append_nil]at eK
   exact⟨s.places.length - (i+1),by omega,i+1,by omega,by rw[hw,eK],rfl⟩
 ·have bM:¬(i:Int) < (s.places.length:Int):=bM
  obtain rfl:i=s.places.length:=by omega
  left
  rw[List.take_length,<-Zf4,List.length_map]
def Zpr(z:Pl×Int):Value:=.tuple #[.agg z.1.cs.toArray,.int .i64 z.2]
theorem Zps(s:Sc)(m:Mem)(hr:RepC m s):CX Tryz.prog 20 #[s.v] m [] (Ret (Zpr s.check)):=by
 apply ZiN
 intro b m1 aB _ b1 b2 b3
 refine Zah (Zda s m1 (hr.mono aB)) λm2 aH=>Zab (λhl=>Zac (mLt aB aH) ?_) (λhl=>?_)
 ·have hl:s.light=false:=by simpa using hl
  show _=Zpr s.check
  unfold Sc.check;rw[hl];rfl
 have hl:s.light=true:=by simpa using hl
 refine Zak (Zjk s m2) (λv m' css h=>by obtain⟨_,rfl,_⟩:=h;rfl) ?_
 rintro g fi ca m3 aQ ⟨b4,hv,mu⟩
 obtain⟨rfl,rfl,rfl⟩:=Zcw hv
 have bH:=mLt aB (mLt aH aQ)
 refine⟨_,ZhI s m3 b4 (hr.mono bH) mu,λy hy=>?_,λ_ _ _ m' q=>q=0,rfl,?_,?_⟩
 ·obtain⟨z,_,rfl⟩:=List.mem_map.1 hy;rfl
 ·rintro n n1 n2 n3 n4 n5 cs cs1 m4 q bJ hq rfl b5
  have hq:(List.map (λz=>[ZmZ z]) s.problems)[0]?=some [Value.agg #[.int .i64 n,.int .i64 n1,.int .i64 n2,.int .i64 n3,.int .i64 n4,.int .i64 n5]]:=hq
  rw[List.getElem?_map]at hq
  obtain⟨z,hz,iD⟩:=Option.map_eq_some_iff.1 hq
  refine⟨rfl,Zac (mLt bH bJ) ?_⟩
  have hz':s.check=z:=by
   unfold Sc.check;rw[hl,if_pos rfl]
   cases hs:s.problems with
   | nil=>rw[hs]at hz;simp at hz
   | cons x l=>rw[hs]at hz;simpa using hz
  show _=Zpr s.check
  rw[hz']
  simp only[ZmZ,List.cons.injEq,Value.agg.injEq,Array.mk.injEq,Value.int.injEq,true_and,and_true]at iD
  obtain⟨rfl,rfl,rfl,rfl,rfl,rfl⟩:=iD
  rfl
 ·rintro cs cs1 m4 bJ hq
  refine Zac (mLt bH bJ) ?_
  have hs:s.problems=[]:=by
   have hq:(List.map (λz=>[ZmZ z]) s.problems).length=0:=hq
   rw[List.length_map]at hq
   exact List.eq_nil_of_length_eq_zero hq
  show _=Zpr s.check
  unfold Sc.check;rw[hl,if_pos rfl,hs];rfl
theorem ZtP(s:Sc)(m:Mem)(hr:RepC m s):CX Tryz.prog 22 #[s.v] m [] (Ret (.bool (s.check.2 == 0))):=by
 apply ZiO
 intro b m1 aB _
 refine Zak (Zps s m1 (hr.mono aB)) (λv _ _ e=>by rw[show v=_ from e];rfl) ?_
 intro n n1 n2 n3 n4 n5 m2 aH hv
 have hv:Value.tuple #[.agg #[.int .i64 n,.int .i64 n1,.int .i64 n2,.int .i64 n3,.int .i64 n4],.int .i64 n5]=Zpr s.check:=hv
 simp only[Zpr,Value.tuple.injEq,Array.mk.injEq,List.cons.injEq,Value.int.injEq,true_and,and_true]at hv
 intro b2
 refine Zac (mLt aB aH) ?_
 show Value.bool _=Value.bool _
 rw[hv.2]
def Zpt:List ByteArray:=[⟨#[98,117,102,102,101,114]⟩,⟨#[118,97,114,105,97,98,108,101]⟩,⟨#[115,116,97,116,101,115]⟩,⟨#[115,116,97,116,101]⟩,⟨#[114,117,108,101]⟩,⟨#[114,101,103,101,120]⟩,⟨#[101,110,100]⟩,⟨#[97,99,116,105,111,110]⟩,⟨#[110,97,109,101]⟩,⟨#[99,97,112,116,117,114,101]⟩]
def ZuQ(e:Int):ByteArray:=if e=5 then⟨#[108,111,110,103]⟩ else if e ≥ 300/\e<=309 then Zpt.getD (e - 300).toNat ⟨#[]⟩ else⟨#[]⟩
theorem Zye(e:Int)(m:Mem):CX Tryz.prog 31 #[.int .i64 e] m [] (Ret (.string (ZuQ e))):=by
 apply ZkD
 intro b hf
 have bH:=Mem.le_add hf (Zpt.map Value.string)
 refine Zab (λh=>Zac bH ?_) (λh=>?_)
 ·have h:e=5:=by simpa using h
  show Value.string _=Value.string _
  unfold ZuQ;rw[if_pos h]
 have h:¬e=5:=by simpa using h
 by_cases h1:e ≥ 300
 ·by_cases h2:e<=309
  ·refine⟨true,ZrH (decide_eq_true h1) ⟨by trivial,Zaf (decide_eq_true h2)⟩,ZrH rfl ?_⟩
   have hw:IntKind.i64.wrap (e - 300)=e - 300:=Zam (by omega) (by omega)
   rw[hw]
   obtain⟨w,hw'⟩:=Zet (show(e - 300).toNat < Zpt.length by show(e - 300).toNat < 10;omega)
   refine⟨⟨by omega,by omega⟩,Zao (v:=.string w) ?_ (Zac bH ?_)⟩
   ·show(Zpt.map Value.string)[(e - 300).toNat*1]?=_
    rw[Nat.mul_one,List.getElem?_map,hw'];rfl
   ·show Value.string _=Value.string _
    unfold ZuQ;rw[if_neg h,if_pos ⟨h1,h2⟩,List.getD_eq_getElem?_getD,hw'];rfl
  ·refine⟨false,ZrH (decide_eq_true h1) ⟨by trivial,Zaf (decide_eq_false h2)⟩,ZdO rfl (Zac bH ?_)⟩
   show Value.string _=Value.string _
   unfold ZuQ;rw[if_neg h,if_neg (by omega)]
 ·refine⟨false,ZdO (decide_eq_false h1) ⟨by trivial,rfl⟩,ZdO rfl (Zac bH ?_)⟩
  show Value.string _=Value.string _
  unfold ZuQ;rw[if_neg h,if_neg (by omega)]
theorem Zwm(m:Mem):Rep m ZwI:=by simp only[ZwI,Rep];exact⟨by simp,.inl trivial,by constructor <;> decide⟩
theorem Zwn(m:Mem):Rep m Zyv:=by simp only[Zyv,Rep];exact⟨by simp,.inl trivial,by constructor <;> decide⟩
theorem Zyf(m:Mem):CX Tryz.prog 57 #[.int .u8 120] m [] (Ret ZwI.v):=by
 apply Ze0
 intro b b1
 exact⟨by decide,by decide,by decide,⟨by decide,by decide⟩,Zaa (by kernel_rfl) (Zaa (by kernel_rfl) (Zac (Mem.le_refl m) (by show _=ZwI.v;kernel_rfl)))⟩
theorem Zyg(m:Mem):CX Tryz.prog 57 #[.int .u8 121] m [] (Ret Zyv.v):=by
 apply Ze0
 intro b b1
 exact⟨by decide,by decide,by decide,⟨by decide,by decide⟩,Zaa (by kernel_rfl) (Zaa (by kernel_rfl) (Zac (Mem.le_refl m) (by show _=Zyv.v;kernel_rfl)))⟩
def ZqN:Value->Mem->List (List Value)->Prop:=λv m' _=>∃a1 a2,v=ZAO false false (rxT a1 a2)/\Rep m' (rxT a1 a2)
theorem ZlD:∀(v:Value)(m':Mem) (css:List (List Value)),ZqN v m' css->Shape.fits (.agg [.bool,.bool,.int .u8,.int .u64,.int .u64,.int .u64,.int .u64,.int .i64,.int .i64,.slice]) v=true:=λv _ _ ⟨_,_,e,_⟩=>by rw[e];rfl
theorem Zr0(m:Mem):CX Tryz.prog 29 #[] m [] ZqN:=by
 apply ZiQ
 intro b
 refine Zak (Zyf m) (λv _ _ e=>by rw[show v=_ from e];rfl) ?_
 intro n n1 n2 n3 n4 n5 n6 a n7 c m1 aB hv
 simp only[Ret,ZwI,T.v,T.k,T.s0,T.s1,T.s2,T.s3,T.mn,T.mx,T.a,T.c,T.subs,Value.agg.injEq,Array.mk.injEq,List.cons.injEq,Value.int.injEq,Value.slice.injEq,true_and,and_true,List.length_nil]at hv
 obtain⟨rfl,rfl,rfl,rfl,rfl,rfl,rfl,rfl,rfl,rfl⟩:=hv
 intro b1 oT
 have lF:m1.le (m1.add b1 ZwI.cs):=Mem.le_add oT _
 refine Zak (Zyg _) (λv _ _ e=>by rw[show v=_ from e];rfl) ?_
 intro n n1 n2 n3 n4 n5 n6 a n7 c m2 aH hv
 simp only[Ret,Zyv,T.v,T.k,T.s0,T.s1,T.s2,T.s3,T.mn,T.mx,T.a,T.c,T.subs,Value.agg.injEq,Array.mk.injEq,List.cons.injEq,Value.int.injEq,Value.slice.injEq,true_and,and_true,List.length_nil]at hv
 obtain⟨rfl,rfl,rfl,rfl,rfl,rfl,rfl,rfl,rfl,rfl⟩:=hv
 intro b2 jr
 have hg:Rep m2 (ZbO 6 0 0 (some ⟨b1,0,none⟩) 1 [ZwI]):=Zdo (Zm6 ((Zaw m1 b1 ZwI.cs).mono aH) (Zwm m2)) (by omega) (by omega) (by omega)
 have nP:=Mem.le_add jr ((ZbO 6 0 0 (some ⟨b1,0,none⟩) 1 [ZwI]).cs++Zyv.cs)
 refine⟨_,mLt aB (mLt lF (mLt aH nP)),Mem.le_refl _,some ⟨b1,0,none⟩,some ⟨b2,0,none⟩,rfl,?_⟩
 have hR:=Zaw m2 b2 ((ZbO 6 0 0 (some ⟨b1,0,none⟩) 1 [ZwI]).cs++Zyv.cs)
 refine Zdo (k:=3) (l:=[ZbO 6 0 0 (some ⟨b1,0,none⟩) 1 [ZwI],Zyv]) ⟨by simp,.inr ⟨b2,0,rfl,?_⟩⟩ (by omega) (by omega) (by omega)
 simp only[RepAt]
 exact⟨ZbX hR 0 8,hg.mono nP,ZbX hR 8 8,Zwn _,trivial⟩
def Zyz(P:Ru->Prop):Value->Mem->List (List Value)->Prop:=λv m' _=>∃va sa ra r,P r/\v=(Zg5 va sa ra r).v/\RepC m' (Zg5 va sa ra r)
theorem ZdQ{P}:∀(v:Value)(m':Mem) (css:List (List Value)),Zyz P v m' css->Shape.fits (.agg [.int .i64,.slice,.slice]) v=true:=λv _ _ ⟨_,_,_,_,_,e,_⟩=>by rw[e];rfl
theorem ZkL{P:Ru->Prop}(r:Ru)(hP:P r)(m:Mem)(hr:RepR m r):CX Tryz.prog 28 #[.agg r.cs.toArray] m [] (Zyz P):=by
 apply ZmN
 intro b m1 aB _ b0 b1 oT b2 jr b3 gZ
 have l1:m1.le _:=Mem.le_add oT (Zh9.map Va.cs).flatten
 have l2:=Mem.le_add jr r.cs
 have l3:=Mem.le_add gZ [.string ⟨#[97]⟩,.slice (some ⟨b2,0,none⟩) 1 1]
 have r1:=Zaw m1 b1 (Zh9.map Va.cs).flatten
 have r2:=Zaw (m1.add b1 (Zh9.map Va.cs).flatten) b2 r.cs
 have r3:=Zaw ((m1.add b1 (Zh9.map Va.cs).flatten).add b2 r.cs) b3 [.string ⟨#[97]⟩,.slice (some ⟨b2,0,none⟩) 1 1]
 refine⟨_,mLt aB (mLt l1 (mLt l2 l3)),Mem.le_refl _,some ⟨b1,0,none⟩,some ⟨b3,0,none⟩,some ⟨b2,0,none⟩,r,hP,rfl,?_⟩
 refine⟨by show(-9223372036854775808:Int)<=9/\(9:Int)<=9223372036854775807;decide,by show 2<=few;decide,.inr ⟨b1,0,rfl,r1.mono (mLt l2 l3)⟩,λv hv=>?_,by show 1<=few;decide,.inr ⟨b3,0,rfl,r3⟩,λx hx=>?_,Nat.le_refl 2,Nat.le_refl 1⟩
 ·simp only[Zg5,Zh9,List.mem_cons,List.not_mem_nil,or_false]at hv
  rcases hv with rfl|rfl <;> exact⟨by decide,by decide⟩
 ·simp only[Zg5,List.mem_cons,List.not_mem_nil,or_false]at hx
  subst hx
  refine⟨by show ByteArray.size ⟨#[97]⟩<=_;decide,by show 1<=few;decide,.inr ⟨b2,0,rfl,?_⟩,λz hz=>?_⟩
  ·have:(List.map Ru.cs [r]).flatten=r.cs:=by simp
   rw[this];exact r2.mono l3
  ·simp only[List.mem_cons,List.not_mem_nil,or_false]at hz
   subst hz
   exact hr.mono (mLt aB (mLt l1 (mLt l2 l3)))
def ZuR(l:List Int):Value->Mem->List (List Value)->Prop:=λv m' _=>∃pa pc b,v=.slice (some ⟨b,0,none⟩) 1 1/\m'.reads b 0 (ZmX pa pc l).cs/\RepA m' (ZmX pa pc l)
theorem ZhJ{l}:∀(v:Value)(m':Mem) (css:List (List Value)),ZuR l v m' css->Shape.fits .slice v=true:=λv _ _ ⟨_,_,_,e,_⟩=>by rw[e];rfl
theorem Zwo(n:Int)(hn:I64 n)(m:Mem):RepP m (ZuD n):=⟨by show(0:Int)<=3/\(3:Int) < 256;decide,by show ByteArray.size ⟨#[]⟩<=_;decide,hn,Zlh m⟩
theorem Zpu(l:List Int)(a:Option Addr)(c:Nat)(m:Mem)(hl:l.length<=2)(hn:∀n∈l,I64 n)(aF:rowRd m a (l.map (Value.int .i64))):CX Tryz.prog 30 #[.slice a l.length c] m [] (ZuR l):=by
 apply ZkH
 intro b
 refine⟨λxs css tks m' q=>∃(i:Nat)(pa:Option Addr)(pc:Nat),i<=l.length/\xs=[.int .i64 i]/\css=[[.int .u8 1,.string ⟨#[]⟩,.slice pa i pc,.int .u8 0,.float .f64 0,.string ⟨#[]⟩,.int .i64 0,.slice none 0 0]]/\tks=[.slice pa i pc]/\rowRd m' pa (((l.take i).map ZuD).map Pt.cs).flatten/\q=l.length - i,
  ⟨l.length,0,none,0,by omega,rfl,rfl,rfl,.inl rfl,rfl⟩,?_⟩
 rintro n cs a1 n1 c1 m1 q aB ⟨i,pa,pc,hi,hx,cE,ht,hr,rfl⟩
 simp only[List.cons.injEq,Value.int.injEq,and_true,true_and]at hx
 subst hx
 obtain rfl:cs=_:=by simpa using cE
 obtain⟨rfl,rfl,rfl⟩:a1=pa/\n1=i/\c1=pc:=by simpa using ht
 refine ZaE (λaG=>?_) (λbM=>?_)
 ·have aG:(n1:Int) < (l.length:Int):=aG
  obtain⟨n,pn⟩:=Zet (show n1 < l.length by omega)
  obtain⟨b2,o2,ha,hc⟩:=ZBc (aF.mono aB) (show(l.map (Value.int .i64))[n1]?=some (.int .i64 n) by rw[List.getElem?_map,pn];rfl)
  refine⟨b2,o2,ha,⟨by omega,aG⟩,_,hc,Zao (v:=.slice a1 n1 c1) rfl (Zaa rfl (Zaa rfl λb3 gZ=>Zaa rfl ?_))⟩
  have bH:m1.le (m1.add b3 (ZuD n).cs):=Mem.le_add gZ _
  have aT:(((l.take n1).map ZuD).map Pt.cs).flatten.length=n1*8:=by
   have:∀L:List Int,((L.map ZuD).map Pt.cs).flatten.length=L.length*8:=λL=>by
    induction L with
    | nil=>rfl
    | cons x L ih=>rw[List.map_cons,List.map_cons,List.flatten_cons,zA1,ih,List.length_cons,Nat.succ_mul];show 8+_=_;omega
   rw[this,List.length_take,Nat.min_eq_left (by omega)]
  refine⟨.inl rfl,(((l.take n1).map ZuD).map Pt.cs).flatten,(ZuD n).cs,aT,rfl,hr.mono bH,.inr ⟨b3,0,rfl,Zaw m1 b3 _⟩,?_,by show(n1+1)*96<=_;omega,by show n1+1<=_;omega,λa' c' m2 aH gG=>Zaa rfl ⟨rfl,l.length - (n1+1),by omega,n1+1,a',c',by omega,?_,rfl,rfl,?_,rfl⟩⟩
  ·intro u hu
   simp only[ZuD,Pt.cs,List.mem_cons,List.not_mem_nil,or_false]at hu
   rcases hu with rfl|rfl|rfl|rfl|rfl|rfl|rfl|rfl <;> rfl
  ·rw[Zam (by omega) (by omega)];rfl
  ·rw[List.take_add_one,pn,List.map_append,List.map_append,List.flatten_append]
   have:(List.map Pt.cs (List.map ZuD (some n).toList)).flatten=(ZuD n).cs:=by simp
   rw[this];exact gG
 ·have bM:¬(n1:Int) < (l.length:Int):=bM
  obtain rfl:n1=l.length:=by omega
  refine Zaa rfl λb2 jr=>?_
  have bH:m1.le (m1.add b2 (ZmX a1 c1 l).cs):=Mem.le_add jr _
  have j5:(l.map ZuD).length=l.length:=List.length_map _
  have cE:(ZmX a1 c1 l).cs=[.int .u8 1,.string ⟨#[]⟩,.slice a1 l.length c1,.int .u8 0,.float .f64 0,.string ⟨#[]⟩,.int .i64 0,.slice none 0 0]:=by
   show[Value.int .u8 1,.string ⟨#[]⟩,.slice a1 (l.map ZuD).length c1,.int .u8 0,.float .f64 0,.string .empty,.int .i64 0,.slice none 0 0]=_
   rw[j5];rfl
  rw[cE]at bH
  refine⟨_,mLt aB bH,Mem.le_refl _,a1,c1,b2,rfl,?_,?_⟩
  ·rw[cE];exact Zaw m1 b2 _
  ·rw[List.take_length]at hr
   refine⟨by show(0:Int)<=1/\(1:Int) < 256;decide,by show ByteArray.size ⟨#[]⟩<=_;decide,?_,hr.mono bH,λp hp=>?_,Zlh _⟩
   ·show(l.map ZuD).length<=few
    rw[j5];unfold few;omega
   ·obtain⟨n,hn',rfl⟩:=List.mem_map.1 hp
    exact Zwo n (hn n hn') _
theorem Zdb(p0 p1 p2 p3:Int)(m:Mem):CX Tryz.prog 27 #[.int .i64 p0,.int .i64 p1,.int .i64 p2,.int .i64 p3] m [] (Ret (.agg #[.int .i64 (-1),.int .i64 p0,.int .i64 p1,.int .i64 p2,.int .i64 p3])):=by
 apply Zgs
 exact λb=>Zac (Mem.le_refl m) rfl
end Go.Proofs.YtdopppmkbkkmiaaGreatDoor