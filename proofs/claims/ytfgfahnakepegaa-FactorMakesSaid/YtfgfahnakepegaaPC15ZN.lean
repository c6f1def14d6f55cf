/- Part of the proof: conditions and contracts of functions of this program. No condition of its own. -/
import Derived.Test.YtfgfahnakepegaaPC15E
import Derived.Test.YtfgfahnakepegaaPEnv
import Derived.Test.YtfgfahnakepegaaMc
import Derived.Test.YtfgfahnakepegaaMr
import Derived.Test.YtfgfahnakepegaaRows
import Derived.Deep.Slices
import Derived.Laws.IdiomArrays
set_option linter.unusedVariables false
set_option linter.unusedSimpArgs false
set_option linter.unusedSectionVars false
namespace Go.Proofs.Ytfgfahnakepegaa
open Go Go.Eng Go.Rx Go.Proofs Go.RowKit
set_option maxRecDepth 100000
def T.rgt(t:T):Bool:=t.clean&&decide (t.size<=120)
theorem Zex{t:T}:T.rgt t=true↔t.good=true/\t.nodes.length<=120:=by
 unfold T.rgt
 rw[Bool.and_eq_true,decide_eq_true_iff]
 constructor
 ·rintro⟨h1,h2⟩
  have h3:=Zgn h1
  rw[ZbZ h3.2]at h2
  exact⟨h3.1,by omega⟩
 ·rintro⟨h1,h2⟩
  exact⟨Za6 h1 (by omega),by rw[ZbZ (by omega)];omega⟩
def Zk3(e:Int)(φ:T->Prop):Value->Mem->List (List Value)->Prop:=λv m' _=>∃t':T,v=.tuple #[t'.v,.int .i64 e]/\Rep m' t'/\φ t'/\t'.caps
def Za9(L:List C4):List Value:=(L.map ZcJ).flatten
theorem ZeH(L:List C4):(Za9 L).length=L.length*4:=by
 induction L with
 | nil=>rfl
 | cons c L ih=>simp[Za9,ZcJ]at ih ⊢;omega
theorem ZfQ(L:List C4)(c:C4):Za9 (L++[c])=Za9 L++ZcJ c:=by simp[Za9]
theorem ZwR(c:C4):∀u∈ZcJ c,u.oneCell'=true:=by
 intro u hu
 simp only[ZcJ,List.mem_cons,List.not_mem_nil,or_false]at hu
 rcases hu with rfl|rfl|rfl|rfl <;> rfl
def ZAv(L:List C4):Value->Mem->List (List Value)->Prop:=λv m' _=>∃a c,v=.slice a L.length c/\rowRd m' a (Za9 L)
def Zzv(e:Int)(L:List C4):Value->Mem->List (List Value)->Prop:=λv m' _=>∃a c,v=.tuple #[.slice a L.length c,.int .i64 e]/\rowRd m' a (Za9 L)
theorem ZqF{t:T}:∀(v:Value)(m':Mem) (css:List (List Value)),ZAu t v m' css->Shape.fits (.tup [.agg [.int .i64,.int .i64,.int .i64,.int .i64],.int .i64,.agg [.int .u8,.int .u64,.int .u64,.int .u64,.int .u64,.int .i64,.int .i64,.slice]]) v=true:=λv _ _ ⟨t,e,_⟩=>by rw[e];rfl
theorem Zsa(t:T)(m:Mem)(hr:Rep m t)(dJ:t.caps):CX Try.prog 17 #[t.v] m [] (λv m' css=>if T.rgt t then Zk3 0 (λt'=>t'.er=(ZbP t).1/\NewT m t') v m' css else Zk3 2 (λt'=>t'=T0) v m' css):=by
 apply ZhP
 unfold Zew
 intro b b1
 refine Zak (ZiF t m hr) λm1 aO=>Zab (λh=>?_) (λh=>?_)
 ·have hf:T.rgt t=false:=by rw[Bool.not_eq_true']at h;exact h
  refine⟨m1,aO,Mem.le_refl _,?_⟩
  rw[hf]
  exact⟨T0,rfl,ZlB _,rfl,Zik⟩
 ·have ht:T.rgt t=true:=by unfold T.rgt;simpa using h
  obtain⟨hg,hz⟩:=Zex.1 ht
  refine⟨λxs css tvs m' q=>∃x:T,css=[x.cs,T0.cs]/\Rep m' x/\x.caps/\x.good=true/\x.nodes.length<=120/\ZbP x=((ZbP t).1,(ZbP x).2)/\q=x.nodes.length,⟨_,t,rfl,hr.mono aO,dJ,hg,hz,rfl,rfl⟩,?_⟩
  rintro cs cs1 m2 q aP ⟨x,cK,cW,te,nA,jL,tj,hq⟩
  simp only[List.cons.injEq,and_true]at cK
  obtain⟨rfl,rfl⟩:=cK
  refine⟨_,trivial,ZvR x m2 cW nA te jL,ZqF,?_⟩
  rintro n1 n2 n3 n4 n5 n6 n7 n8 n9 n10 n11 n12 a n13 c m3 aX ⟨t',hv,hr',ht',hc'⟩ b3 b4
  simp only[C4.v,T.v,Value.tuple.injEq,Value.agg.injEq,Array.mk.injEq,List.cons.injEq,Value.int.injEq,Value.slice.injEq,true_and,and_true]at hv
  obtain⟨_,rfl,rfl,rfl,rfl,rfl,rfl,rfl,rfl,rfl,rfl,rfl⟩:=hv
  refine Zab (λbE=>?_) (λiN=>?_)
  ·have bE:=of_decide_eq_true bE
   refine Zag (Ztv x m3 (cW.mono aX) (by omega)) ZaB (ZbH λo m4 bK r9 ⟨ho,jZ,w7⟩=>?_)
   refine⟨m4,mLt aO (mLt aP (mLt aX bK)),Mem.le_refl _,?_⟩
   rw[ht]
   refine⟨o,rfl,r9,⟨?_,w7.less (mLt aO (mLt aP aX))⟩,jZ⟩
   show o.er=(ZbP t).1
   rw[Zoa bE]at tj
   rw[ho,<-(Prod.mk.inj tj).1]
  ·have iN:=of_decide_eq_false iN
   have hb:=Zjy nA (by omega)
   have hz':t'.nodes.length=(Zcw x).t.nodes.length:=by rw[<-ZfE t',ht']
   have rv:ZbP t'=ZbP (Zcw x).t:=Znq (by rw[ht',hb.2.2.1])
   refine⟨by trivial,t'.nodes.length,by omega,t',rfl,hr',hc',by rw[<-Zcv,ht'];exact hb.1,by omega,?_,rfl⟩
   rw[ZrK nA iN]at tj
   rw[rv,<-(Prod.mk.inj tj).1]
theorem Zu2(t:T)(m:Mem)(hr:Rep m t)(dJ:t.caps):CX Try.prog 17 #[t.v] m [] (λv m' css=>if T.rgt t then Zk3 0 (λt'=>t'.er=(ZbP t).1) v m' css else Zk3 2 (λt'=>t'=T0) v m' css):=
 (Zsa t m hr dJ).mono λv m' css _ h=>by
  split at h
  ·rename_i hr
   rw[if_pos hr]
   obtain⟨t',e,hr',h1,h2⟩:=h
   exact⟨t',e,hr',h1.1,h2⟩
  ·rename_i hr
   rw[if_neg hr];exact h
theorem ZyB(t:T)(m:Mem)(hr:Rep m t)(dJ:t.caps):CX Try.prog 29 #[t.v] m [] (λv _ _=>v=(if T.rgt t=false then .tuple #[C4.zero.v,.int .i64 0,.bool false,.int .i64 2]else if(Zcw t).g<=0 then .tuple #[C4.zero.v,.int .i64 0,.bool false,.int .i64 0]else .tuple #[(Zcw t).c.v,.int .i64 (Zcw t).g,.bool true,.int .i64 0])):=by
 apply ZjZ
 unfold ZfM
 intro b m1 aO _ b1
 refine Zak (ZiF t m1 (hr.mono aO)) λm2 aP=>Zab (λh=>?_) (λh=>?_)
 ·have hf:T.rgt t=false:=by rw[Bool.not_eq_true']at h;exact h
  rw[if_pos hf]
  exact⟨m2,mLt aO aP,Mem.le_refl _,rfl⟩
 have ht:T.rgt t=true:=by rw[Bool.not_eq_false']at h;exact h
 obtain⟨hg,hz⟩:=Zex.1 ht
 rw[if_neg (by rw[ht];simp)]
 refine⟨_,trivial,ZvR t m2 (hr.mono (mLt aO aP)) hg dJ hz,ZqF,?_⟩
 rintro n1 n2 n3 n4 n5 n6 n7 n8 n9 n10 n11 n12 a n13 c m3 aX ⟨t',hv,hr',ht',hc'⟩ b3 b4
 simp only[C4.v,T.v,Value.tuple.injEq,Value.agg.injEq,Array.mk.injEq,List.cons.injEq,Value.int.injEq,Value.slice.injEq,true_and,and_true]at hv
 obtain⟨⟨rfl,rfl,rfl,rfl⟩,rfl,rfl,rfl,rfl,rfl,rfl,rfl,rfl,rfl,rfl,rfl⟩:=hv
 have bT:=mLt aO (mLt aP aX)
 refine Zab (λbE=>?_) (λiN=>?_)
 ·rw[if_pos (of_decide_eq_true bE)]
  exact⟨m3,bT,Mem.le_refl _,rfl⟩
 ·rw[if_neg (of_decide_eq_false iN)]
  exact⟨m3,bT,Mem.le_refl _,rfl⟩
theorem ZyC(a b c d a' b' c' d':Int):EqIs Try.prog 29 (.agg #[.int .i64 a,.int .i64 b,.int .i64 c,.int .i64 d]) (.agg #[.int .i64 a',.int .i64 b',.int .i64 c',.int .i64 d']) (a == a'&&b == b'&&c == c'&&d == d'):=by
 refine⟨λw=>?_,λop ox oy w=>Zei (by kernel_rfl) op ox oy _ _ w⟩
 have u3:=Try.underlying3
 have a3:=Try.isAgg3
 have z3:=Try.sizeOf3
 rw[Op.equal,Op.maxDepth,show(10000:Nat)=9999+1 from rfl]
 rw[run_equalIn_agg _ _ _ _ _ (by kernel_rfl) (by kernel_rfl)]
 have hf:(Try.prog.fieldsOf 29).toList=[⟨ "Alt",3,0,false, "", "",0⟩,⟨ "From",3,1,false, "", "",8⟩,⟨ "To",3,2,false, "", "",16⟩,⟨ "Length",3,3,false, "", "",24⟩]:=by kernel_rfl
 rw[hf]
 go_simp
 by_cases h1:a=a' <;> by_cases h2:b=b' <;> by_cases h3:c=c' <;> by_cases h4:d=d' <;> simp[h1,h2,h3,h4]
def Zxs(t:T)(a b c d:Int):Value->Mem->List (List Value)->Prop:=λv m' css=>
 if T.rgt t=false then Zk3 2 (λt'=>t'=T0) v m' css else
 (∃k∈t.cuts,((k.a:Nat):Int)=a/\((k.f:Nat):Int)=b/\((k.t:Nat):Int)=c/\((k.n:Nat):Int)=d/\Zk3 0 (λt'=>t'.er=(t.cutAt k 0).1) v m' css)\/
 ((∀k∈t.cuts,¬(((k.a:Nat):Int)=a/\((k.f:Nat):Int)=b/\((k.t:Nat):Int)=c/\((k.n:Nat):Int)=d))/\Zk3 150 (λt'=>t'=T0) v m' css)
def Zq8(t:T)(m:Mem)(a b c d:Int):Value->Mem->List (List Value)->Prop:=λv m' css=>
 if T.rgt t=false then Zk3 2 (λt'=>t'=T0) v m' css else
 (∃k∈t.cuts,((k.a:Nat):Int)=a/\((k.f:Nat):Int)=b/\((k.t:Nat):Int)=c/\((k.n:Nat):Int)=d/\Zk3 0 (λt'=>t'.er=(t.cutAt k 0).1/\NewT m t') v m' css)\/
 ((∀k∈t.cuts,¬(((k.a:Nat):Int)=a/\((k.f:Nat):Int)=b/\((k.t:Nat):Int)=c/\((k.n:Nat):Int)=d))/\Zk3 150 (λt'=>t'=T0) v m' css)
theorem Ztx(t:T)(a b c d:Int)(m:Mem)(hr:Rep m t)(dJ:t.caps):CX Try.prog 31 #[t.v,.agg #[.int .i64 a,.int .i64 b,.int .i64 c,.int .i64 d]] m [] (Zq8 t m a b c d):=by
 apply Zj1
 unfold ZfO
 intro b0 m1 aO _ b1 m2 aP _ b2 b3
 have bY:=mLt aO aP
 refine Zak (ZiF t m2 (hr.mono bY)) λm3 aX=>Zab (λh=>?_) (λh=>?_)
 ·have hf:T.rgt t=false:=by rw[Bool.not_eq_true']at h;exact h
  refine⟨m3,mLt bY aX,Mem.le_refl _,?_⟩
  unfold Zq8
  rw[if_pos hf]
  exact⟨T0,rfl,ZlB _,rfl,Zik⟩
 have ht:T.rgt t=true:=by rw[Bool.not_eq_false']at h;exact h
 obtain⟨hg,hz⟩:=Zex.1 ht
 have w8:¬T.rgt t=false:=by rw[ht];simp
 refine Zag (Ztt t m3) Zl3 ?_
 rintro g fi ca m4 bK ⟨nb,hv,iP⟩
 obtain⟨rfl,rfl,rfl⟩:=ZeE hv
 have gA:=mLt bY (mLt aX bK)
 have kU:=hr.mono gA
 refine⟨_,Ztu t m4 nb iP kU dJ (by omega),λx hx=>?_,λxs css tvs m' q=>css=[T0.cs,[.int .i64 0]]/\∀k∈t.cuts.take q,¬(((k.a:Nat):Int)=a/\((k.f:Nat):Int)=b/\((k.t:Nat):Int)=c/\((k.n:Nat):Int)=d),⟨rfl,by simp⟩,?_,?_⟩
 ·obtain⟨c,_,rfl⟩:=List.mem_map.1 hx
  rfl
 ·rintro n1 n2 n3 n4 cs cs1 m5 q cU dF ⟨cK,dR⟩ b5
  have dF:(t.cuts.map Zvp)[q]?=some [.agg #[.int .i64 n1,.int .i64 n2,.int .i64 n3,.int .i64 n4]]:=dF
  rw[List.getElem?_map]at dF
  obtain⟨k,hk,he⟩:=Option.map_eq_some_iff.1 dF
  simp only[Zvp,C4.v,List.cons.injEq,Value.agg.injEq,Array.mk.injEq,Value.int.injEq,true_and,and_true]at he
  obtain⟨rfl,rfl,rfl,rfl⟩:=he
  have mJ:=List.mem_of_getElem? hk
  simp only[List.cons.injEq,and_true]at cK
  obtain⟨rfl,rfl⟩:=cK
  refine⟨_,ZyC _ _ _ _ _ _ _ _,Zab (λhy=>?_) (λhn=>?_)⟩
  ·simp only[Bool.and_eq_true,beq_iff_eq]at hy
   obtain⟨⟨⟨rfl,rfl⟩,rfl⟩,rfl⟩:=hy
   refine Zag (Ztw t k m5 (kU.mono cU) hg dJ hz (Zd4 mJ)) ZaB (ZbH λt' m6 dU hr' ⟨ht',fZ⟩=>?_)
   refine⟨by trivial,m6,mLt gA (mLt cU dU),Mem.le_refl _,?_⟩
   unfold Zq8
   rw[if_neg w8]
   exact .inl ⟨k,mJ,rfl,rfl,rfl,rfl,t',rfl,hr',⟨ht',fZ.2.less (mLt gA cU)⟩,fZ.1⟩
  ·refine⟨by trivial,rfl,λk' hk'=>?_⟩
   rw[Zcd hk]at hk'
   rcases List.mem_append.1 hk' with hk'|hk'
   ·exact dR k' hk'
   ·rw[List.mem_singleton]at hk';subst hk'
    rintro⟨h1,h2,h3,h4⟩
    rw[h1,h2,h3,h4]at hn
    simp at hn
 ·rintro cs cs1 m5 cU ⟨cK,dR⟩
  rw[List.length_map,List.take_length]at dR
  refine⟨m5,mLt gA cU,Mem.le_refl _,?_⟩
  unfold Zq8
  rw[if_neg w8]
  exact .inr ⟨dR,T0,rfl,ZlB _,rfl,Zik⟩
theorem ZyD(t:T)(a b c d:Int)(m:Mem)(hr:Rep m t)(dJ:t.caps):CX Try.prog 31 #[t.v,.agg #[.int .i64 a,.int .i64 b,.int .i64 c,.int .i64 d]] m [] (Zxs t a b c d):=
 (Ztx t a b c d m hr dJ).mono λv m' css _ h=>by
  unfold Zq8 at h
  unfold Zxs
  split at h
  ·rename_i hr
   rw[if_pos hr];exact h
  ·rename_i hr
   rw[if_neg hr]
   rcases h with⟨k,hk,h1,h2,h3,h4,t',e,hr',h5,h6⟩|h
   ·exact .inl ⟨k,hk,h1,h2,h3,h4,t',e,hr',h5.1,h6⟩
   ·exact .inr h
theorem Zsb{t:T}{a b c d:Int}:∀(v:Value)(m':Mem) (css:List (List Value)),Zxs t a b c d v m' css->Shape.fits (.tup [.agg [.int .u8,.int .u64,.int .u64,.int .u64,.int .u64,.int .i64,.int .i64,.slice],.int .i64]) v=true:=by
 intro v m' css h
 have key:∀e φ,Zk3 e φ v m' css->Shape.fits (.tup [.agg [.int .u8,.int .u64,.int .u64,.int .u64,.int .u64,.int .i64,.int .i64,.slice],.int .i64]) v=true:=λe φ ⟨t',h,_⟩=>by rw[h];rfl
 unfold Zxs at h
 split at h
 ·exact key _ _ h
 ·rcases h with⟨_,_,_,_,_,_,h⟩|⟨_,h⟩
  ·exact key _ _ h
  ·exact key _ _ h
theorem Zsc{t:T}{m:Mem}{a b c d:Int}:∀(v:Value)(m':Mem) (css:List (List Value)),Zq8 t m a b c d v m' css->Shape.fits (.tup [.agg [.int .u8,.int .u64,.int .u64,.int .u64,.int .u64,.int .i64,.int .i64,.slice],.int .i64]) v=true:=by
 intro v m' css h
 have key:∀e φ,Zk3 e φ v m' css->Shape.fits (.tup [.agg [.int .u8,.int .u64,.int .u64,.int .u64,.int .u64,.int .i64,.int .i64,.slice],.int .i64]) v=true:=λe φ ⟨t',h,_⟩=>by rw[h];rfl
 unfold Zq8 at h
 split at h
 ·exact key _ _ h
 ·rcases h with⟨_,_,_,_,_,_,h⟩|⟨_,h⟩
  ·exact key _ _ h
  ·exact key _ _ h
end Go.Proofs.Ytfgfahnakepegaa
set_option linter.unusedVariables false
set_option linter.unusedSimpArgs false
set_option linter.unusedSectionVars false
namespace Go.Proofs.Ytfgfahnakepegaa
open Go Go.Eng Go.Rx Go.Proofs Go.RowKit
set_option maxRecDepth 100000
def ZAw(t:T)(a b c d:Int)(g e:Int):Prop:=
 (T.rgt t=false/\g=0/\e=2)\/
 (T.rgt t=true/\∃k∈t.cuts,((k.a:Nat):Int)=a/\((k.f:Nat):Int)=b/\((k.t:Nat):Int)=c/\((k.n:Nat):Int)=d/\g=Zfi t k/\e=0)\/
 (T.rgt t=true/\(∀k∈t.cuts,¬(((k.a:Nat):Int)=a/\((k.f:Nat):Int)=b/\((k.t:Nat):Int)=c/\((k.n:Nat):Int)=d))/\g=0/\e=150)
def ZAx(t:T)(a b c d:Int):Value->Mem->List (List Value)->Prop:=λv _ _=>∃g e,v=.tuple #[.int .i64 g,.int .i64 e]/\ZAw t a b c d g e
theorem Zu3{t:T}{a b c d:Int}:∀(v:Value)(m':Mem) (css:List (List Value)),ZAx t a b c d v m' css->Shape.fits (.tup [.int .i64,.int .i64]) v=true:=λv _ _ ⟨g,e,h,_⟩=>by rw[h];rfl
theorem ZvS(t:T)(a b c d:Int)(m:Mem)(hr:Rep m t)(dJ:t.caps):CX Try.prog 30 #[t.v,.agg #[.int .i64 a,.int .i64 b,.int .i64 c,.int .i64 d]] m [] (ZAx t a b c d):=by
 apply Zj0
 unfold ZfN
 intro b0 m1 aO _ b1 m2 aP _
 have bY:=mLt aO aP
 refine Zag (ZyD t a b c d m2 (hr.mono bY) dJ) Zsb ?_
 rintro n1 n2 n3 n4 n5 n6 n7 a1 n8 c1 n9 m3 aX iL b3
 have bT:=mLt bY aX
 unfold Zxs at iL
 have tk:∀{e:Int} {φ:T->Prop},Zk3 e φ (.tuple #[.agg #[.int .u8 n1,.int .u64 n2,.int .u64 n3,.int .u64 n4,.int .u64 n5,.int .i64 n6,.int .i64 n7,.slice a1 n8 c1],.int .i64 n9]) m3 []->n9=e/\∃t':T,.agg #[.int .u8 n1,.int .u64 n2,.int .u64 n3,.int .u64 n4,.int .u64 n5,.int .i64 n6,.int .i64 n7,.slice a1 n8 c1]=t'.v/\Rep m3 t'/\φ t':=by
  rintro e φ ⟨t',hv,hr',hp,_⟩
  simp only[Value.tuple.injEq,Array.mk.injEq,List.cons.injEq,Value.int.injEq,true_and,and_true]at hv
  exact⟨hv.2,t',hv.1,hr',hp⟩
 by_cases ht:T.rgt t=false
 ·rw[if_pos ht]at iL
  obtain⟨rfl,-⟩:=tk iL
  exact ZvM rfl (Zaj bT ⟨_,_,rfl,.inl ⟨ht,rfl,rfl⟩⟩)
 rw[if_neg ht]at iL
 have ht':T.rgt t=true:=by simpa using ht
 obtain⟨hg,hz⟩:=Zex.1 ht'
 rcases iL with⟨k,hk,e1,e2,e3,e4,iL⟩|⟨dR,iL⟩
 ·obtain⟨rfl,t',hv,hr',hp⟩:=tk iL
  have ho:=Zjx (c:=k) t 0 hg (Zd4 hk)
  have hz':t'.nodes.length=(t.cutAt k 0).1.nodes.length:=by rw[<-ZfE t',hp]
  have bA:=ho.sz
  refine ZnB rfl ⟨λi _ _=>if i=1 then Ret (.int .i64 t.size)else Ret (.int .i64 t'.size),_,(if_pos rfl).symm,ZnA t m3 (hr.mono bT),λv _ _ e=>by rw[e];rfl,?_⟩
  rintro n m4 bK hn
  obtain rfl:n=t.size:=by simpa[Ret]using hn
  refine⟨_,(if_neg (by omega)).symm,by rw[hv];exact ZnA t' m4 (hr'.mono bK),λv _ _ e=>by rw[e];rfl,?_⟩
  rintro n m5 cU hn M _ _ hM
  obtain rfl:n=t'.size:=by simpa[Ret]using hn
  refine⟨M,mLt bT (mLt bK (mLt cU hM)),Mem.le_refl _,_,_,rfl,.inr (.inl ⟨ht',k,hk,e1,e2,e3,e4,?_,rfl⟩)⟩
  rw[ZbZ (by omega),ZbZ (by omega),ZaA (by omega) (by omega)]
  unfold Zfi
  omega
 ·obtain⟨rfl,-⟩:=tk iL
  exact ZvM rfl (Zaj bT ⟨_,_,rfl,.inr (.inr ⟨ht',dR,rfl,rfl⟩)⟩)
theorem Zsd{e:Int}{L:List C4}:∀(v:Value)(m':Mem) (css:List (List Value)),Zzv e L v m' css->Shape.fits (.tup [.slice,.int .i64]) v=true:=λv _ _ ⟨a,c,e,_⟩=>by rw[e];rfl
def Zzw(L:List C4):Value->Mem->List (List Value)->Prop:=λv m' _=>∃a c,v=.slice a L.length c/\rowRd m' a (Za9 L)/\L.length<=c
theorem ZnF{L:List C4}:∀(v:Value)(m':Mem) (css:List (List Value)),Zzw L v m' css->Shape.fits .slice v=true:=λv _ _ ⟨a,c,e,_⟩=>by rw[e];rfl
theorem Zor(L:List C4)(g:Nat)(fi ca:List Value)(m:Mem)(hx:IX Try.prog g fi ca m (L.map Zvp))(hl:L.length<=1000000):CX Try.prog 101 #[.slice none 0 0,.func (.func g) fi.toArray ca.toArray] m [] (Zzw L):=by
 apply Zbk
 unfold ZaV
 intro b1
 refine⟨_,hx,λx hx=>?_,λxs css tvs m' q=>∃a' c',css=[[.slice a' q c']]/\tvs=[.slice a' q c']/\rowRd m' a' (Za9 (L.take q))/\q<=c',⟨none,0,rfl,rfl,.inl rfl,Nat.le_refl _⟩,?_,?_⟩
 ·obtain⟨c,_,rfl⟩:=List.mem_map.1 hx
  rfl
 ·rintro z1 z2 z3 z4 cs a1 n1 c1 m7 q dA hq ⟨a',c',cI,cF,aR,vr⟩
  obtain rfl:cs=[.slice a' q c']:=by simpa using cI
  obtain⟨rfl,rfl,rfl⟩:a1=a'/\n1=q/\c1=c':=by simpa using cF
  have hq:(L.map Zvp)[n1]?=some [.agg #[.int .i64 z1,.int .i64 z2,.int .i64 z3,.int .i64 z4]]:=hq
  rw[List.getElem?_map]at hq
  obtain⟨k,hk,he⟩:=Option.map_eq_some_iff.1 hq
  simp only[Zvp,C4.v,List.cons.injEq,Value.agg.injEq,Array.mk.injEq,Value.int.injEq,true_and,and_true]at he
  obtain⟨rfl,rfl,rfl,rfl⟩:=he
  have aS:=(List.getElem?_eq_some_iff.1 hk).1
  intro b2
  refine Zas rfl ?_
  intro b3 aY
  refine Zaa rfl ⟨.inl rfl,Za9 (L.take n1),ZcJ k,?_,rfl,aR.mono (Mem.le_add aY _),.inr ⟨b3,0,rfl,?_⟩,ZwR k,?_,?_,?_⟩
  ·rw[ZeH,List.length_take,Nat.min_eq_left (by omega)];rfl
  ·intro j v hj;rw[Nat.zero_add,Mem.add_same];exact hj
  ·simp only[slN];omega
  ·simp only[slN];omega
  ·intro a2 c2 m8 iO dO bM
   refine⟨by trivial,a2,c2,rfl,rfl,?_,bM⟩
   rw[Zcd hk,ZfQ]
   exact dO
 ·rintro cs a1 n1 c1 m7 dA ⟨a',c',cI,cF,aR,vr⟩
  obtain rfl:cs=_:=by simpa using cI
  refine Zas rfl ⟨m7,dA,Mem.le_refl _,a',c',?_,?_,?_⟩
  ·simp only[List.length_map]
  ·rw[List.length_map,List.take_length]at aR
   exact aR
  ·rw[List.length_map]at vr
   exact vr
theorem Zse(L:List C4)(g:Nat)(fi ca:List Value)(m:Mem)(hx:IX Try.prog g fi ca m (L.map Zvp))(hl:L.length<=1000000):CX Try.prog 74 #[.func (.func g) fi.toArray ca.toArray] m [] (Zzw L):=by
 apply Zcz
 unfold ZbG
 refine Zag (Zor L g fi ca m hx hl) ZnF ?_
 rintro a n c m1 aO ⟨a',c',hv,aR,bM⟩
 cases hv
 exact⟨m1,aO,Mem.le_refl _,_,_,rfl,aR,bM⟩
def OrE(t:T)(L:List C4):Value->Mem->List (List Value)->Prop:=λv m' css=>if T.rgt t=false then v=.tuple #[.slice none 0 0,.int .i64 2]else Zzv 0 L v m' css
def OrC(t:T):Value->Mem->List (List Value)->Prop:=λv m' css=>if T.rgt t=false then v=.tuple #[.slice none 0 0,.int .i64 2]else ∃a c,v=.tuple #[.slice a t.cuts.length c,.int .i64 0]/\rowRd m' a (Za9 t.cuts)/\t.cuts.length<=c
theorem ZwS(t:T)(m:Mem)(hr:Rep m t)(dJ:t.caps)(hl:t.cuts.length<=1000000):CX Try.prog 32 #[t.v] m [] (OrC t):=by
 apply Zj2
 unfold ZfP
 intro b m1 aO _
 refine Zak (ZiF t m1 (hr.mono aO)) λm2 aP=>Zab (λh=>?_) (λh=>?_)
 ·have hf:T.rgt t=false:=by rw[Bool.not_eq_true']at h;exact h
  refine Zaj (mLt aO aP) ?_
  unfold OrC
  rw[if_pos hf]
 have ht:T.rgt t=true:=by rw[Bool.not_eq_false']at h;exact h
 obtain⟨hg,hz⟩:=Zex.1 ht
 have bY:=mLt aO aP
 refine Zag (Ztt t m2) Zl3 ?_
 rintro g fi ca m3 aX ⟨nb,hv,iP⟩
 obtain⟨rfl,rfl,rfl⟩:=ZeE hv
 have bT:=mLt bY aX
 refine Zag (Zse t.cuts _ _ _ m3 (Ztu t m3 nb iP (hr.mono bT) dJ (by omega)) hl) ZnF ?_
 rintro a n c m4 bK ⟨a',c',hv,aR,bM⟩
 cases hv
 refine⟨m4,mLt bT bK,Mem.le_refl _,?_⟩
 unfold OrC
 rw[if_neg (by rw[ht];simp)]
 exact⟨_,_,rfl,aR,bM⟩
theorem ZyE(t:T)(m:Mem)(hr:Rep m t)(dJ:t.caps)(hl:t.cuts.length<=1000000):CX Try.prog 32 #[t.v] m [] (OrE t t.cuts):=
 (ZwS t m hr dJ hl).mono λv m' css _ h=>by
  unfold OrC at h
  unfold OrE
  split at h
  ·rename_i hf;rw[if_pos hf];exact h
  ·rename_i hf
   obtain⟨a,c,hv,aR,_⟩:=h
   rw[if_neg hf];exact⟨a,c,hv,aR⟩
def Ze2(t:T):List Value:=[.int .u64 t.s0,.int .u64 t.s1,.int .u64 t.s2,.int .u64 t.s3]
end Go.Proofs.Ytfgfahnakepegaa
set_option linter.unusedVariables false
namespace Go.Proofs.Ytfgfahnakepegaa
open Go Go.Eng Go.Proofs Go.RowKit
open Go.Value (int slice agg bool string tuple func)
open Go.IntKind (u8 u64 i64)
set_option maxRecDepth 100000
noncomputable def Zu4:Env:={ EB with
 loops:=(λi=>bif Nat.beq i 3 then⟨[(8,.int .i64)],[3],[],false⟩ else⟨[],[],[],false⟩) }
def ZnG(p0a:Option Addr)(p0n p0c:Nat)(m:Mem)(R:RT):Prop:=
 ∀(b b_1:Nat),∃(I:IT),(∃(n:Nat),I [int i64 0] [[int u64 0,int u64 0,int u64 0,int u64 0]] [] m n)/\∀(n:Int)(cs:List Value)(m':Mem)(n_1:Nat),Mem.le m m'->I [int i64 n] [cs] [] m' n_1->br
 (decide (n < (↑p0n:Int))) (∃(b_2:Nat),∃(o:Nat),p0a=some (Addr.mk b_2 o none)/\Zad n p0n/\∃(v:Value),m' b_2 (o+Int.toNat n*1)=some v/\chk (ZaG u8 v&&true) ((0:Int)<=(6:Int)/\Zad
 (Int.fdiv (RowKit.intOf v) ((2:Int) ^ 6)) 4/\Eng.Zvl cs (0+Int.toNat (Int.fdiv (RowKit.intOf v) ((2:Int) ^ 6))*1) λ(v_1:Value)=>chk (ZaG u8 v&&decide (u8=u8)) ((0:Int)<=IntKind.wrap u8
 (↑(BitVec.toNat (BitVec.ofInt 8 (RowKit.intOf v)&&&BitVec.ofInt 8 (63:Int))):Int)/\chk (ZaG u64 v_1&&decide (u64=u64)) (Zad (Int.fdiv (RowKit.intOf v) ((2:Int) ^ 6)) 4/\chk (Nat.ble (0+Int.toNat
 (Int.fdiv (RowKit.intOf v) ((2:Int) ^ 6))*1+1) (List.length cs)) ([some (Box.mk b_1 [] 24 4 false true),some (Box.mk b [int u64 0,int u64 0,int u64 0,int u64 0] 24 4 false true)]=[some (Box.mk b_1 [] 24 4
 false true),some (Box.mk b [int u64 0,int u64 0,int u64 0,int u64 0] 24 4 false true)]/\∃(n':Nat),n' < n_1/\I [int i64 (IntKind.wrap i64 (n+(1:Int)))] [Zav cs (0+Int.toNat (Int.fdiv (RowKit.intOf v)
 ((2:Int) ^ 6))*1) [int u64 (IntKind.wrap u64 (↑(BitVec.toNat (BitVec.ofInt 64 (RowKit.intOf v_1)|||BitVec.ofInt 64 (IntKind.wrap u64 ((1:Int)*(2:Int) ^ min (Int.toNat (IntKind.wrap u8 (↑(BitVec.toNat
 (BitVec.ofInt 8 (RowKit.intOf v)&&&BitVec.ofInt 8 (63:Int))):Int))) 64)))):Int))]] [] m' n'))))) (chk (Nat.beq (List.length cs) 4&&ZbA cs) (∃(m'':Mem),Mem.le m m''/\Mem.le m'' m'/\R (agg (Array.mk cs))
 m'' []))
theorem Zsf(p0a:Option Addr)(p0n p0c:Nat)(m:Mem)(R:RT)(h:ZnG p0a p0n p0c m R):CX Try.prog 21 #[.slice p0a p0n p0c] m [] R:=
 Zaf (E:=Zu4) ZaH mix Try.func21 [.v (.slice p0a p0n p0c)] [] (by kernel_rfl) (Eq.mp (by kernel_rfl) h)
noncomputable def ZyF:Env:={ EB with
 frzNew:=[1] }
def Zty(aD aE aF aG:Int)(m:Mem)(R:RT):Prop:=
 ∀(b:Nat)(m':Mem),Mem.le m m'->Mem.reads m' b 0 [int u64 aD,int u64 aE,int u64 aF,int u64 aG]->∀(b:Nat),∃(b:Bool),EqIs Try.prog 24 (agg (Array.mk [int u64 aD,int u64 aE,int u64 aF,int
 u64 aG])) (agg (Array.mk [int u64 0,int u64 0,int u64 0,int u64 0])) b/\br b (∃(m'':Mem),Mem.le m m''/\Mem.le m'' m'/\R (agg (Array.mk [int u8 0,int u64 0,int u64 0,int u64 0,int u64 0,int i64 0,int
 i64 0,slice none 0 0])) m'' []) (∃(m'':Mem),Mem.le m m''/\Mem.le m'' m'/\R (agg (Array.mk [int u8 2,int u64 aD,int u64 aE,int u64 aF,int u64 aG,int i64 0,int i64 0,slice none 0 0])) m'' [])
theorem ZwT(aD aE aF aG:Int)(m:Mem)(R:RT)(h:Zty aD aE aF aG m R):CX Try.prog 66 #[.agg #[.int .u64 aD,.int .u64 aE,.int .u64 aF,.int .u64 aG]] m [] R:=
 Zaf (E:=ZyF) ZaH mix Try.func66 [.v (.agg #[.int .u64 aD,.int .u64 aE,.int .u64 aF,.int .u64 aG])] [] (by kernel_rfl) (Eq.mp (by kernel_rfl) h)
noncomputable def Zu5:Env:=EB
def ZnH(p0:Int)(m:Mem)(R:RT):Prop:=
 ∀(b b:Nat),Mem.free m b->∃(R_1:RT),True/\CX Try.prog 21 (Array.mk [slice (some (Addr.mk b 0 none)) 1 1]) (Mem.add m b [int u8 p0]) [] R_1/\Zau (Shape.agg [Shape.int u64,Shape.int u64,Shape.int u64,
 Shape.int u64]) R_1/\∀(n n_1 n_2 n_3:Int)(m':Mem),Mem.le (Mem.add m b [int u8 p0]) m'->R_1 (agg (Array.mk [int u64 n,int u64 n_1,int u64 n_2,int u64 n_3])) m' []->∃(R_2:RT),True/\CX Try.prog 66
 (Array.mk [agg (Array.mk [int u64 n,int u64 n_1,int u64 n_2,int u64 n_3])]) m' [] R_2/\Zau (shT) R_2/\∀(n n_4 n_5 n_6 n_7 n_8 n_9:Int)(a:Option Addr)(n_10 c:Nat)(m'_1:Mem),Mem.le m' m'_1->R_2 (agg
 (Array.mk [int u8 n,int u64 n_4,int u64 n_5,int u64 n_6,int u64 n_7,int i64 n_8,int i64 n_9,slice a n_10 c])) m'_1 []->∃(m'':Mem),Mem.le m m''/\Mem.le m'' m'_1/\R (agg (Array.mk [int u8 n,int u64 n_4,int
 u64 n_5,int u64 n_6,int u64 n_7,int i64 n_8,int i64 n_9,slice a n_10 c])) m'' []
theorem Zsg(p0:Int)(m:Mem)(R:RT)(h:ZnH p0 m R):CX Try.prog 36 #[.int .u8 p0] m [] R:=
 Zaf (E:=Zu5) ZaH mix Try.func36 [.v (.int .u8 p0)] [] (by kernel_rfl) (Eq.mp (by kernel_rfl) h)
end Go.Proofs.Ytfgfahnakepegaa
set_option linter.unusedVariables false
set_option linter.unusedSimpArgs false
set_option linter.unusedSectionVars false
namespace Go.Proofs.Ytfgfahnakepegaa
open Go Go.Eng Go.Rx Go.Proofs Go.RowKit
set_option maxRecDepth 100000
theorem ZCb:∀c:Fin 256,IntKind.u64.wrap (((BitVec.ofInt 64 0|||BitVec.ofInt 64 (IntKind.u64.wrap (1*2 ^ min (IntKind.u8.wrap ((BitVec.ofInt 8 (c.val:Int)&&&BitVec.ofInt 8 63).toNat:Int)).toNat 64))).toNat:Nat):Int)=((2 ^ (c.val % 64):Nat):Int):=by decide +kernel
theorem ZA5{c:Nat}(hc:c < 256):IntKind.u64.wrap (((BitVec.ofInt 64 0|||BitVec.ofInt 64 (IntKind.u64.wrap (1*2 ^ min (IntKind.u8.wrap ((BitVec.ofInt 8 (c:Int)&&&BitVec.ofInt 8 63).toNat:Int)).toNat 64))).toNat:Nat):Int)=((2 ^ (c % 64):Nat):Int):=ZCb ⟨c,hc⟩
theorem ZzS:∀c:Fin 256,(0:Int)<=IntKind.u8.wrap ((BitVec.ofInt 8 (c.val:Int)&&&BitVec.ofInt 8 63).toNat:Int)/\Int.fdiv (c.val:Int) (2 ^ 6)=((c.val / 64:Nat):Int):=by decide +kernel
def ZBS(t:T):Value:=.agg (Ze2 t).toArray
theorem Zsh(c:Nat)(hc:c < 256)(b o k:Nat)(m:Mem)(h:m b o=some (.int .u8 (c:Nat))):CX Try.prog 21 #[.slice (some ⟨b,o,none⟩) 1 k] m [] (Ret (ZBS (Zan c))):=by
 apply Zsf
 unfold ZnG
 intro b1 b2
 have hs:=ZzS ⟨c,hc⟩
 simp only at hs
 refine⟨λxs css tvs m' q=>(xs=[.int .i64 0]/\css=[[.int .u64 0,.int .u64 0,.int .u64 0,.int .u64 0]]/\q=1)\/(xs=[.int .i64 1]/\css=[Ze2 (Zan c)]/\q=0),⟨1,.inl ⟨rfl,rfl,rfl⟩⟩,?_⟩
 rintro n cs m1 q aO (⟨hx,cI,hq⟩|⟨hx,cI,hq⟩)
 ·obtain rfl:n=0:=by simpa using hx
  obtain rfl:cs=_:=by simpa using cI
  refine ZvM rfl ⟨b,o,rfl,⟨by omega,by omega⟩,.int .u8 (c:Nat),?_,Zaa rfl ⟨by decide,?_,?_⟩⟩
  ·have:=aO _ _ _ h
   simpa using this
  ·show Zad (Int.fdiv (c:Int) (2 ^ 6)) 4
   rw[hs.2]
   exact⟨by omega,by omega⟩
  ·show Eng.Zvl _ (0+(Int.fdiv (c:Int) (2 ^ 6)).toNat*1) _
   rw[hs.2,Int.toNat_natCast,Nat.mul_one,Nat.zero_add]
   have hj:c / 64=0\/c / 64=1\/c / 64=2\/c / 64=3:=by omega
   have dF:([.int .u64 0,.int .u64 0,.int .u64 0,.int .u64 0]:List Value)[c / 64]?=some (.int .u64 0):=by
    rcases hj with e|e|e|e <;> rw[e] <;> rfl
   refine Zas dF (Zaa rfl ⟨hs.1,Zaa rfl ⟨?_,Zaa ?_ ⟨by trivial,0,by omega,.inr ⟨?_,?_,rfl⟩⟩⟩⟩)
   ·show Zad (Int.fdiv (c:Int) (2 ^ 6)) 4
    rw[hs.2]
    exact⟨by omega,by omega⟩
   ·show Nat.ble (0+(Int.fdiv (c:Int) (2 ^ 6)).toNat*1+1) 4=true
    rw[hs.2]
    rw[Nat.ble_eq]
    omega
   ·rw[ZaA (by omega) (by omega)];rfl
   ·show[Zav _ (0+(Int.fdiv (c:Int) (2 ^ 6)).toNat*1) [.int .u64 (IntKind.u64.wrap (((BitVec.ofInt 64 0|||BitVec.ofInt 64 (IntKind.u64.wrap (1*2 ^ min (IntKind.u8.wrap ((BitVec.ofInt 8 (c:Int)&&&BitVec.ofInt 8 63).toNat:Int)).toNat 64))).toNat:Nat):Int))]]=_
    rw[hs.2,ZA5 hc,Int.toNat_natCast,Nat.mul_one,Nat.zero_add]
    unfold Ze2 Zan T.s0 T.s1 T.s2 T.s3 ZlC
    rcases hj with e|e|e|e <;> simp[e,Zav]
 ·obtain rfl:n=1:=by simpa using hx
  obtain rfl:cs=_:=by simpa using cI
  exact ZnB rfl (Zaa rfl (Zaj aO rfl))
theorem ZyG(a b c d:Int)(hz:¬(a=0/\b=0/\c=0/\d=0))(m:Mem)(hr:Rep m (.node 2 a b c d 0 0 none 0 [])):CX Try.prog 66 #[.agg #[.int .u64 a,.int .u64 b,.int .u64 c,.int .u64 d]] m [] (Zdx λt=>t=.node 2 a b c d 0 0 none 0 []):=by
 apply ZwT
 unfold Zty
 intro b1 m1 aO _ b2
 refine⟨_,Zr0 _ _ _ _ _ _ _ _,ZnB ?_ ⟨m1,aO,Mem.le_refl _,_,rfl,hr.mono aO,rfl⟩⟩
 cases h:(a == 0&&b == 0&&c == 0&&d == 0)with
 | false=>rfl
 | true=>simp only[Bool.and_eq_true,beq_iff_eq]at h;exact absurd ⟨h.1.1.1,h.1.1.2,h.1.2,h.2⟩ hz
theorem Zu6(c:Nat)(hc:c < 256):¬(ZlC c 0=0/\ZlC c 1=0/\ZlC c 2=0/\ZlC c 3=0):=by
 rintro⟨h0,h1,h2,h3⟩
 have hp:(0:Int) < ((2 ^ (c % 64):Nat):Int):=by
  have:0 < 2 ^ (c % 64):=Nat.two_pow_pos _
  omega
 have hj:c / 64=0\/c / 64=1\/c / 64=2\/c / 64=3:=by omega
 unfold ZlC at h0 h1 h2 h3
 rcases hj with e|e|e|e
 ·rw[if_pos e]at h0;omega
 ·rw[if_pos e]at h1;omega
 ·rw[if_pos e]at h2;omega
 ·rw[if_pos e]at h3;omega
theorem ZvT(c:Nat)(hc:c < 256)(m:Mem):CX Try.prog 36 #[.int .u8 (c:Nat)] m [] (Zdx λt=>t=Zan c):=by
 apply Zsg
 unfold ZnH
 intro b0 b1 hf
 refine Zag (Zsh c hc b1 0 1 _ (Mem.le_refl _ _ _ _ (by rw[Mem.add_same];rfl))) (λv _ _ e=>by rw[e];rfl) ?_
 rintro n1 n2 n3 n4 m1 aO hv
 simp only[Ret,ZBS,Ze2,Value.agg.injEq,Array.mk.injEq,List.cons.injEq,Value.int.injEq,true_and,and_true]at hv
 obtain⟨rfl,rfl,rfl,rfl⟩:=hv
 refine Zag (ZyG _ _ _ _ (Zu6 c hc) m1 (Znj c m1)) ZaB (ZbH λt' m2 aP hr' ht'=>?_)
 subst ht'
 exact⟨m2,mLt (Mem.le_add hf _) (mLt aO aP),Mem.le_refl _,_,rfl,hr',rfl⟩
def Zzx(t:T):Bool:=decide (t.check=0)&&decide (t.size<=60)
theorem ZyH(t:T):∀u∈t.cs,u.oneCell'=true:=by
 intro u hu
 simp only[T.cs,List.mem_cons,List.not_mem_nil,or_false]at hu
 rcases hu with rfl|rfl|rfl|rfl|rfl|rfl|rfl|rfl <;> rfl
end Go.Proofs.Ytfgfahnakepegaa
set_option linter.unusedVariables false
namespace Go.Proofs.Ytfgfahnakepegaa
open Go Go.Eng Go.Proofs Go.RowKit
open Go.Value (int slice agg bool string tuple func)
open Go.IntKind (u8 u64 i64)
set_option maxRecDepth 100000
end Go.Proofs.Ytfgfahnakepegaa
set_option linter.unusedVariables false
set_option linter.unusedSimpArgs false
set_option linter.unusedSectionVars false
namespace Go.Proofs.Ytfgfahnakepegaa
open Go Go.Eng Go.Rx Go.Proofs Go.RowKit
set_option maxRecDepth 100000
structure OkT (t:T):Prop where
 good:t.good=true
 caps:t.caps
 fits:Zzx t=true
theorem Zg3{t:T}(h:t.check=0):t.clean=true:=by
 unfold T.check at h
 cases hc:t.clean with
 | true=>rfl
 | false=>rw[if_pos hc]at h;cases h
theorem ZwU{t:T}(h:Zzx t=true):t.check=0/\t.good=true/\t.nodes.length<=60:=by
 unfold Zzx at h
 rw[Bool.and_eq_true,decide_eq_true_iff,decide_eq_true_iff]at h
 have h1:=Zgn (Zg3 h.1)
 have h2:=h.2
 rw[ZbZ h1.2]at h2
 exact⟨h.1,h1.1,by omega⟩
theorem OkT.clean{t:T}(h:OkT t):t.clean=true:=Zg3 (ZwU h.fits).1
theorem Zb9{m:Mem}{b:Nat}{l:List T}(hf:m.free b)(hr:∀t∈l,Rep m t)(hl:l.length<=1000000000000000):RepL (m.add b (Rx.ZcA l)) (some ⟨b,0,none⟩) l:=
 ZdU (.inr ⟨b,0,rfl,λj v hj=>by rw[Nat.zero_add,Mem.add_same];exact hj⟩) (λt ht=>(hr t ht).mono (Mem.le_add hf _)) hl
end Go.Proofs.Ytfgfahnakepegaa
set_option linter.unusedVariables false
set_option linter.unusedSimpArgs false
namespace Go.Proofs.Ytfgfahnakepegaa
open Go Go.Eng Go.Rx Go.Proofs Go.RowKit Go.ChangeShapes Go.WideShapes Go.ChangeAt
set_option maxRecDepth 100000
theorem ZzT:ownKnob Try.prog.godebug=none:=by kernel_rfl
theorem ZyI:laidOutB Try.prog=true:=by kernel_rfl
theorem ZAy{n:Int}(h:(Lit.int .u8 n).wf=true):0<=n/\n < 256:=by
 have:0<=n/\n<=255:=by simpa[Lit.wf,IntKind.min,IntKind.max,IntKind.signed,IntKind.bits]using h
 omega
theorem ZyJ{n:Int}(h:(Lit.int .i64 n).wf=true) : -9223372036854775808<=n/\n<=9223372036854775807:=by
 simpa[Lit.wf,IntKind.min,IntKind.max,IntKind.signed,IntKind.bits]using h
end Go.Proofs.Ytfgfahnakepegaa
set_option linter.unusedVariables false
set_option linter.unusedSimpArgs false
namespace Go.Proofs.Ytfgfahnakepegaa
open Go Go.Eng Go.Rx Go.Proofs Go.RowKit Go.ChangeShapes Go.WideShapes Go.ChangeAt
set_option maxRecDepth 100000
theorem ZA6{w:World}{a:Addr}{v:Value}(h:w.cell? ((a.add (0*8)).add 0)=some v):∃b o,a=⟨b,o,none⟩:=by
 obtain⟨b,o,sp⟩:=a
 cases sp with
 | none=>exact⟨b,o,rfl⟩
 | some s=>
  exfalso
  have e:(Addr.add (Addr.add ⟨b,o,some s⟩ (0*8)) 0)=⟨b,o,some s⟩:=rfl
  rw[e]at h
  unfold World.cell? at h
  split at h
  ·simp at h
  ·cases h
theorem ZA7{n:Int}(h:(Lit.int .u64 n).wf=true):0<=n/\n < 18446744073709551616:=by
 have:0<=n/\n<=18446744073709551615:=by simpa[Lit.wf,IntKind.min,IntKind.max,IntKind.signed,IntKind.bits]using h
 omega
section
variable {H:Type} {enc:TypeId×Value->H} {W:World} {cS:Bool}
theorem Zsi{n:Nat}{c0 c1 c2 c3:Value}{x:DataW H×List MemPlace}(h:DataW.trod enc Try.prog W 0 (λ_=>true) cS n 24 [c0,c1,c2,c3]=some x):∃s0 s1 s2 s3,c0=.int .u64 s0/\c1=.int .u64 s1/\c2=.int .u64 s2/\c3=.int .u64 s3/\(0<=s0/\s0 < 18446744073709551616)/\(0<=s1/\s1 < 18446744073709551616)/\(0<=s2/\s2 < 18446744073709551616)/\(0<=s3/\s3 < 18446744073709551616):=by
 obtain⟨y0,y1,y2,y3,n',_,h0,h1,h2,h3⟩:=trod_array4 Try.underlying24 (by kernel_rfl) h
 obtain⟨n0,k0,_,w0⟩:=DataW.trod_int Try.underlying22 h0
 obtain⟨n1,k1,_,w1⟩:=DataW.trod_int Try.underlying22 h1
 obtain⟨n2,k2,_,w2⟩:=DataW.trod_int Try.underlying22 h2
 obtain⟨n3,k3,_,w3⟩:=DataW.trod_int Try.underlying22 h3
 simp at k0 k1 k2 k3
 exact⟨n0,n1,n2,n3,k0,k1,k2,k3,ZA7 w0,ZA7 w1,ZA7 w2,ZA7 w3⟩
theorem ZnI:Try.prog.underlying 27=some (.struct #[⟨ "Kind",5,0,false, "", "",0⟩,⟨ "Set",24,1,false, "", "",8⟩,⟨ "Min",3,5,false, "", "",40⟩,⟨ "Max",3,6,false, "", "",48⟩,⟨ "Subs",25,7,false, "", "",56⟩]):=by kernel_rfl
instance:Inhabited T:=⟨T0⟩
theorem Zu7:∀(n:Nat){cs:List Value}{x:DataW H×List MemPlace},DataW.trod enc Try.prog W 0 (λ_=>true) cS n 27 cs=some x->∃t:T,cs=t.cs/\RepW (Zxl W) t:=by
 intro n
 induction n using Nat.strongRecOn with
 | ind n ih=>
  intro cs x h
  obtain⟨xs,k,hk,_,aU,bB,hx⟩:=DataW.trod_struct ZnI h
  have sw:Try.prog.cellsOf 27=8:=by kernel_rfl
  rw[sw]at aU
  obtain⟨c0,c1,c2,c3,c4,c5,c6,c7,rfl⟩:∃a b c d e f g h,cs=[a,b,c,d,e,f,g,h]:=by
   match cs,aU with
   | [a,b,c,d,e,f,g,h],_=>exact⟨a,b,c,d,e,f,g,h,rfl⟩
  obtain⟨z0,z1,z2,z3,z4,rfl⟩:∃a b c d e,xs=[a,b,c,d,e]:=by
   match xs,bB with
   | [a,b,c,d,e],_=>exact⟨a,b,c,d,e,rfl⟩
  have k0:Try.prog.cellsOf 5=1:=by kernel_rfl
  have k1:Try.prog.cellsOf 24=4:=by kernel_rfl
  have k2:Try.prog.cellsOf 3=1:=by kernel_rfl
  have k4:Try.prog.cellsOf 25=1:=by kernel_rfl
  have g0:DataW.trod enc Try.prog W 0 (λ_=>true) cS k 5 (List.take (Try.prog.cellsOf 5) (List.drop 0 [c0,c1,c2,c3,c4,c5,c6,c7]))=some z0:=hx 0 _ rfl
  have g1:DataW.trod enc Try.prog W 0 (λ_=>true) cS k 24 (List.take (Try.prog.cellsOf 24) (List.drop 1 [c0,c1,c2,c3,c4,c5,c6,c7]))=some z1:=hx 1 _ rfl
  have g2:DataW.trod enc Try.prog W 0 (λ_=>true) cS k 3 (List.take (Try.prog.cellsOf 3) (List.drop 5 [c0,c1,c2,c3,c4,c5,c6,c7]))=some z2:=hx 2 _ rfl
  have g3:DataW.trod enc Try.prog W 0 (λ_=>true) cS k 3 (List.take (Try.prog.cellsOf 3) (List.drop 6 [c0,c1,c2,c3,c4,c5,c6,c7]))=some z3:=hx 3 _ rfl
  have g4:DataW.trod enc Try.prog W 0 (λ_=>true) cS k 25 (List.take (Try.prog.cellsOf 25) (List.drop 7 [c0,c1,c2,c3,c4,c5,c6,c7]))=some z4:=hx 4 _ rfl
  rw[k0]at g0
  rw[k1]at g1
  rw[k2]at g2 g3
  rw[k4]at g4
  replace g0:DataW.trod enc Try.prog W 0 (λ_=>true) cS k 5 [c0]=some z0:=g0
  replace g1:DataW.trod enc Try.prog W 0 (λ_=>true) cS k 24 [c1,c2,c3,c4]=some z1:=g1
  replace g2:DataW.trod enc Try.prog W 0 (λ_=>true) cS k 3 [c5]=some z2:=g2
  replace g3:DataW.trod enc Try.prog W 0 (λ_=>true) cS k 3 [c6]=some z3:=g3
  replace g4:DataW.trod enc Try.prog W 0 (λ_=>true) cS k 25 [c7]=some z4:=g4
  obtain⟨kk,q0,_,w0⟩:=DataW.trod_int Try.underlying5 g0
  obtain⟨s0,s1,s2,s3,rfl,rfl,rfl,rfl,o0,o1,o2,o3⟩:=Zsi g1
  obtain⟨mn,q2,_,w2⟩:=DataW.trod_int Try.underlying3 g2
  obtain⟨mx,q3,_,w3⟩:=DataW.trod_int Try.underlying3 g3
  simp only[List.cons.injEq,and_true]at q0 q2 q3
  subst q0 q2 q3
  have ok:OkN kk s0 s1 s2 s3 mn mx:=⟨ZAy w0,o0,o1,o2,o3,ZyJ w2,ZyJ w3⟩
  rcases DataW.trod_slice Try.underlying25 g4 with⟨q4,_⟩|⟨a,len,cap,elems,rest,n',hn',q4,_,_,hl,hm,AO,w9,_⟩
  ·simp only[List.cons.injEq,and_true]at q4
   subst q4
   exact⟨.node kk s0 s1 s2 s3 mn mx none 0 [],rfl,ZlQ.2 ⟨by simp[T.subs],.inl rfl,ok⟩⟩
  ·simp only[List.cons.injEq,and_true]at q4
   subst q4
   rw[sw]at w9
   obtain⟨F,hF⟩:=Go.Deep.choose_lt (α:=T) (n:=len) (p:=λi t=>(∀j v,t.cs[j]?=some v->W.cell? ((a.add (i*8)).add j)=some v)/\RepW (Zxl W) t) (λi hi=>by
    have h1:=w9 i hi
    rw[List.getElem?_eq_getElem (by omega)]at h1
    obtain⟨cs',h2,h3⟩:=Option.bind_eq_some_iff.1 h1
    obtain⟨_,gJ,hc⟩:=World.cells?_some h2
    obtain⟨t,rfl,ht⟩:=ih n' (by omega) h3
    refine⟨t,λj v hj=>?_,ht⟩
    have aS:=(List.getElem?_eq_some_iff.1 hj).1
    rw[hc j (by rw[gJ]at aS;exact aS)];exact hj)
   have uM:cap<=9223372036854775807:=by simp[maxLen]at hm;omega
   refine⟨.node kk s0 s1 s2 s3 mn mx (some a) cap ((List.range len).map F),by simp[T.cs,T.sl,T.k,T.s0,T.s1,T.s2,T.s3,T.mn,T.mx,T.a,T.c,T.subs],ZlQ.2 ⟨by simp[T.subs];omega,?_,ok⟩⟩
   by_cases h0:len=0
   ·left;subst h0;rfl
   ·right
    obtain⟨b,o,rfl⟩:=ZA6 ((hF 0 (by omega)).1 0 _ rfl)
    refine⟨b,o,rfl,ZlR λi t hi=>?_⟩
    rw[T.subs,List.getElem?_map]at hi
    obtain⟨i',hi',rfl⟩:=Option.map_eq_some_iff.1 hi
    have aS:i < len:=by have:=(List.getElem?_eq_some_iff.1 hi').1;simpa using this
    have e:i'=i:=by rw[List.getElem?_range aS]at hi';exact(Option.some.inj hi').symm
    subst e
    refine⟨λj v hj=>?_,(hF i' aS).2⟩
    have:=(hF i' aS).1 j v hj
    rw[Zcx,Zcx]at this
    exact this
theorem Zu8{v:Value}{d:DataW H}{ps:List MemPlace}{r:Reach}{b0:Nat}(gB:Value.okWide Try.prog W r b0 27 v)(h:DataW.Trod enc Try.prog W 0 (λ_=>true) cS 27 v d ps):
  ∃t:T,v=t.v/\RepW (Zxl W) t:=by
 obtain⟨n,h⟩:=h
 obtain⟨cs,rfl,bA⟩:=okWide_struct ZnI gB
 obtain⟨L,rfl⟩:∃L:List Value,cs=L.toArray:=⟨cs.toList,by simp⟩
 obtain⟨t,ht,hr⟩:=Zu7 n h
 replace ht:L=t.cs:=ht
 exact⟨t,by rw[ht];rfl,hr⟩
end
end Go.Proofs.Ytfgfahnakepegaa
