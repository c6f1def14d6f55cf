/- Part of the proof: conditions and contracts of functions of this program. No condition of its own. -/
import Derived.Test.YtfgfahnakepegaaPVFD
import Derived.Test.YtfgfahnakepegaaMr
import Derived.Test.YtfgfahnakepegaaPEnv
import Derived.Test.YtfgfahnakepegaaMc
import Derived.Test.YtfgfahnakepegaaRows
import Derived.Deep.Slices
import Derived.Laws.IdiomArrays
set_option linter.unusedVariables false
set_option linter.unusedSimpArgs false
set_option linter.unusedSectionVars false
namespace Go.Proofs.Ytfgfahnakepegaa
open Go Go.Eng Go.Rx Go.Proofs Go.RowKit
set_option maxRecDepth 100000
def ZcI(c:C4):List Value:=[.int .i64 (c.a:Nat),.int .i64 (c.f:Nat),.int .i64 (c.t:Nat),.int .i64 (c.n:Nat)]
theorem Zt8(t:T)(c:C4)(m:Mem)(hr:Rep m t)(hg:t.good=true)(cY:t.caps)(hz:t.nodes.length<=120)(hf:ZeB c t.alts 0):CX Try.prog 73 #[t.v,c.v] m [] (ZdM λt'=>t'.er=(t.cutAt c 0).1/\(t'.caps/\NewT m t')):=by
 apply Zkp
 unfold Zf0
 intro b m1 aM _ b' m2 aP _ b1 b2 b3 m3 aX hw hc
 have bT:=mLt aM (mLt aP aX)
 have vp:=Zly c m3 b2 b' b3 hc (by have:=hw 0 _ rfl;rw[Nat.zero_add]at this;exact this) t 0 (by omega) (hr.mono bT) hg cY hz hf
 refine⟨_,trivial,vp,ZsP,?_⟩
 rintro k' s0' s1' s2' s3' mn' mx' a6 n6 c6 m4 bG cs6 ⟨t',hv,hr',ht',gA,sr⟩
 simp only[T.v,Value.agg.injEq,Array.mk.injEq,List.cons.injEq,Value.int.injEq,Value.slice.injEq,true_and,and_true]at hv
 obtain⟨rfl,rfl,rfl,rfl,rfl,rfl,rfl,rfl,rfl,rfl⟩:=hv
 exact⟨m4,mLt bT bG,Mem.le_refl _,t',rfl,hr',ht',gA.1,gA.2.less bT⟩
theorem Zzg(t:T)(c:C4)(m:Mem)(hr:Rep m t)(hg:t.good=true)(cY:t.caps)(hz:t.nodes.length<=120)(hf:ZeB c t.alts 0):CX Try.prog 73 #[t.v,c.v] m [] (ZdM λt'=>t'.er=(t.cutAt c 0).1/\t'.caps):=
 (Zt8 t c m hr hg cY hz hf).mono λ_ _ _ _ ⟨t',e,hr',h1,h2⟩=>⟨t',e,hr',h1,h2.1⟩
theorem ZvF(c top:C4)(gain most:Int)(b0 b1:Nat)(m:Mem):CX Try.prog 85 #[c.v,.int .i64 gain,Zep b0,Zep b1] m [⟨b0,[.int .i64 most],3,1,false,true⟩,⟨b1,ZcI top,29,4,false,true⟩] (λv _ css=>v=.bool (Zhs top c most gain)/\css=[[.int .i64 most],ZcI top]):=by
 apply Zif (c.a:Nat) (c.f:Nat) (c.t:Nat) (c.n:Nat) gain b0 most b1 (top.a:Nat) (top.f:Nat) (top.t:Nat) (top.n:Nat)
 unfold ZeH
 intro b m1 aM _
 have e1:(((c.a:Nat):Int) == ((top.a:Nat):Int))=(c.a == top.a):=by rw[Bool.eq_iff_iff];simp only[beq_iff_eq];omega
 have e2:(((c.f:Nat):Int) == ((top.f:Nat):Int))=(c.f == top.f):=by rw[Bool.eq_iff_iff];simp only[beq_iff_eq];omega
 have e3:decide (((c.t:Nat):Int) > ((top.t:Nat):Int))=decide (c.t > top.t):=decide_eq_decide.2 (by omega)
 rw[e1,e2,e3]
 refine⟨Zhs top c most gain,?_,rfl,rfl,m1,aM,Mem.le_refl _,rfl,rfl⟩
 unfold Zhs
 generalize decide (gain > most)=x1
 generalize (gain == most)=x2
 generalize decide (gain > 0)=x3
 generalize (c.a == top.a)=x4
 generalize (c.f == top.f)=x5
 generalize decide (c.t > top.t)=x6
 cases x1
 ·cases x2
  ·exact⟨rfl,rfl⟩
  ·cases x3
   ·exact⟨rfl,rfl⟩
   ·cases x4
    ·exact⟨rfl,rfl⟩
    ·cases x5
     ·exact⟨rfl,rfl⟩
     ·exact⟨rfl,rfl⟩
 ·exact⟨rfl,rfl⟩
def ZA1(t:T):Value->Mem->List (List Value)->Prop:=λv m' _=>∃t':T,v=.tuple #[(Zbb t).c.v,.int .i64 (Zbb t).g,t'.v]/\Rep m' t'/\t'.er=(Zbb t).t/\t'.caps
theorem ZcE{t:T}(h:t.nodes.length<=10000):t.size=(t.nodes.length:Nat):=by
 unfold T.size T.light
 rw[decide_eq_true h,if_pos rfl]
theorem Zt9(t:T)(m:Mem)(hr:Rep m t)(hg:t.good=true)(cY:t.caps)(hz:t.nodes.length<=120):CX Try.prog 51 #[t.v] m [] (ZA1 t):=by
 apply Zkq
 unfold Zf1
 intro b m1 aM bA b1 b2 b3
 have dJ:=hr.mono aM
 have bB:=ZcE (t:=t) (by omega)
 refine⟨λ_ _ _=>Ret (.int .i64 t.size),_,rfl,Zoe t m1 dJ,(λv _ _ e=>by rw[e];rfl),?_⟩
 intro n m2 aP hn b4 b5 b6 M dP dY b7
 obtain rfl:n=t.size:=by unfold Ret at hn;simpa using hn
 refine Zag (Zt5 t M) ZmC ?_
 rintro g fi ca m3 aX ⟨nb,hv,iW⟩
 obtain⟨rfl,rfl,rfl⟩:=ZeR hv
 have bT:=mLt aM (mLt dP aX)
 have rq:=hr.mono bT
 refine⟨_,Zt6 t m3 nb iW rq cY (by omega),λx hx=>?_,λxs css tvs m' q=>∃tt:T,css=[ZcI ((t.cuts.take q).foldl (Zbp t) ⟨C4.zero,0,t.er⟩).c,[.int .i64 ((t.cuts.take q).foldl (Zbp t) ⟨C4.zero,0,t.er⟩).g],tt.cs]/\Rep m' tt/\tt.er=((t.cuts.take q).foldl (Zbp t) ⟨C4.zero,0,t.er⟩).t/\tt.caps,⟨t,rfl,rq,rfl,cY⟩,?_,?_⟩
 ·obtain⟨c,_,rfl⟩:=List.mem_map.1 hx
  rfl
 ·rintro n1 n2 n3 n4 cs cs1 cs2 m4 q bG dE ⟨tt,cC,vq,tg,fR⟩ b8
  have dE:(t.cuts.map Zv4)[q]?=some [.agg #[.int .i64 n1,.int .i64 n2,.int .i64 n3,.int .i64 n4]]:=dE
  rw[List.getElem?_map]at dE
  obtain⟨c,hc,he⟩:=Option.map_eq_some_iff.1 dE
  simp only[Zv4,C4.v,List.cons.injEq,Value.agg.injEq,Array.mk.injEq,Value.int.injEq,true_and,and_true]at he
  obtain⟨rfl,rfl,rfl,rfl⟩:=he
  have s5:=List.mem_of_getElem? hc
  have bW:(t.cuts.take (q+1)).foldl (Zbp t) ⟨C4.zero,0,t.er⟩=Zbp t ((t.cuts.take q).foldl (Zbp t) ⟨C4.zero,0,t.er⟩) c:=by
   rw[Zb8 hc,List.foldl_append];rfl
  have sw:=ZjX (c:=c) t 0 hg (ZdR s5)
  refine Zag (Zzg t c m4 (rq.mono bG) hg cY hz (ZdR s5)) ZaF (ZbR λt' m5 dA hr' ⟨ht',gA⟩ b9=>?_)
  have hz':t'.nodes.length=(t.cutAt c 0).1.nodes.length:=Zmg ht'
  have pU:=ZcE (t:=t') (by have:=sw.sz;omega)
  refine⟨λ_ _ _=>Ret (.int .i64 t'.size),_,rfl,Zoe t' m5 hr',(λv _ _ e=>by rw[e];rfl),?_⟩
  intro n14 m6 eA sx M2 vr zh
  obtain rfl:n14=t'.size:=by unfold Ret at sx;simpa using sx
  have lS:IntKind.i64.wrap (t.size - t'.size)=Zfl t c:=by
   rw[bB,pU]
   unfold Zfl
   have:=sw.sz
   rw[hz',ZaB (by omega) (by omega)]
  rw[lS]
  generalize hB:(t.cuts.take q).foldl (Zbp t) ⟨C4.zero,0,t.er⟩=B at *
  simp only[List.cons.injEq,and_true]at cC
  obtain⟨rfl,rfl,rfl⟩:=cC
  refine⟨_,trivial,ZvF c B.c (Zfl t c) B.g b4 b3 M2,(λv _ _ e=>by rw[e.1];rfl),?_⟩
  rintro bb m7 cT cs' cs3 ⟨dI,cJ⟩
  obtain rfl:bb=Zhs B.c c B.g (Zfl t c):=by simpa using dI
  simp only[List.cons.injEq,and_true]at cJ
  obtain⟨rfl,rfl⟩:=cJ
  have tf:=mLt vr cT
  refine Zab (λhy=>?_) (λhn=>?_)
  ·refine⟨by trivial,t',?_,hr'.mono tf,?_,gA⟩
   ·rw[bW];unfold Zbp;rw[hy,if_pos rfl];rfl
   ·rw[bW];unfold Zbp;rw[hy,if_pos rfl];exact ht'
  ·refine⟨by trivial,tt,?_,vq.mono (mLt dA tf),?_,fR⟩
   ·rw[bW];unfold Zbp;rw[hn];rfl
   ·rw[bW];unfold Zbp;rw[hn];exact tg
 ·rintro cs cs1 cs2 m4 bG ⟨tt,cC,vq,tg,fR⟩
  rw[List.length_map,List.take_length]at cC tg
  simp only[List.cons.injEq,and_true]at cC
  obtain⟨rfl,rfl,rfl⟩:=cC
  refine Zar (v:=.int .i64 (Zbb t).g) rfl (Zaa rfl (Zaa rfl ⟨m4,mLt bT bG,Mem.le_refl _,tt,rfl,vq,tg,fR⟩))
end Go.Proofs.Ytfgfahnakepegaa
set_option linter.unusedVariables false
set_option linter.unusedSimpArgs false
set_option linter.unusedSectionVars false
namespace Go.Proofs.Ytfgfahnakepegaa
open Go Go.Eng Go.Rx Go.Proofs Go.RowKit
set_option maxRecDepth 100000
def T.rgt(t:T):Bool:=t.clean&&decide (t.size<=120)
theorem ZeJ{t:T}:T.rgt t=true↔t.good=true/\t.nodes.length<=120:=by
 unfold T.rgt
 rw[Bool.and_eq_true,decide_eq_true_iff]
 constructor
 ·rintro⟨h1,h2⟩
  have h3:=ZgF h1
  rw[ZcE h3.2]at h2
  exact⟨h3.1,by omega⟩
 ·rintro⟨h1,h2⟩
  exact⟨Zbg h1 (by omega),by rw[ZcE (by omega)];omega⟩
def Zlz(e:Int)(φ:T->Prop):Value->Mem->List (List Value)->Prop:=λv m' _=>∃t':T,v=.tuple #[t'.v,.int .i64 e]/\Rep m' t'/\φ t'/\t'.caps
def ZaP(L:List C4):List Value:=(L.map ZcI).flatten
theorem Zc6(L:List C4):(ZaP L).length=L.length*4:=by
 induction L with
 | nil=>rfl
 | cons c L ih=>simp[ZaP,ZcI]at ih ⊢;omega
theorem Zdd(L:List C4)(c:C4):ZaP (L++[c])=ZaP L++ZcI c:=by simp[ZaP]
theorem ZvG(c:C4):∀u∈ZcI c,u.oneCell'=true:=by
 intro u hu
 simp only[ZcI,List.mem_cons,List.not_mem_nil,or_false]at hu
 rcases hu with rfl|rfl|rfl|rfl <;> rfl
def ZA2(L:List C4):Value->Mem->List (List Value)->Prop:=λv m' _=>∃a c,v=.slice a L.length c/\rowRd m' a (ZaP L)
def Zzh(e:Int)(L:List C4):Value->Mem->List (List Value)->Prop:=λv m' _=>∃a c,v=.tuple #[.slice a L.length c,.int .i64 e]/\rowRd m' a (ZaP L)
theorem ZmM{t:T}:∀(v:Value)(m':Mem) (css:List (List Value)),ZA1 t v m' css->Shape.fits (.tup [.agg [.int .i64,.int .i64,.int .i64,.int .i64],.int .i64,.agg [.int .u8,.int .u64,.int .u64,.int .u64,.int .u64,.int .i64,.int .i64,.slice]]) v=true:=λv _ _ ⟨t,e,_⟩=>by rw[e];rfl
theorem Zj5(t:T)(m:Mem)(hr:Rep m t)(cY:t.caps):CX Try.prog 17 #[t.v] m [] (λv m' css=>if T.rgt t then Zlz 0 (λt'=>t'.er=(ZaM t).1/\NewT m t') v m' css else Zlz 2 (λt'=>t'=T0) v m' css):=by
 apply Zig
 unfold ZeI
 intro b b1
 refine Zai (Zfq t m hr) λm1 aM=>Zab (λh=>?_) (λh=>?_)
 ·have hf:T.rgt t=false:=by rw[Bool.not_eq_true']at h;exact h
  refine⟨m1,aM,Mem.le_refl _,?_⟩
  rw[hf]
  exact⟨T0,rfl,Zl9 _,rfl,ZiM⟩
 ·have ht:T.rgt t=true:=by unfold T.rgt;simpa using h
  obtain⟨hg,hz⟩:=ZeJ.1 ht
  refine⟨λxs css tvs m' q=>∃x:T,css=[x.cs,T0.cs]/\Rep m' x/\x.caps/\x.good=true/\x.nodes.length<=120/\ZaM x=((ZaM t).1,(ZaM x).2)/\q=x.nodes.length,⟨_,t,rfl,hr.mono aM,cY,hg,hz,rfl,rfl⟩,?_⟩
  rintro cs cs1 m2 q aP ⟨x,cC,cS,qL,gY,iH,mC,hq⟩
  simp only[List.cons.injEq,and_true]at cC
  obtain⟨rfl,rfl⟩:=cC
  refine⟨_,trivial,Zt9 x m2 cS gY qL iH,ZmM,?_⟩
  rintro n1 n2 n3 n4 n5 n6 n7 n8 n9 n10 n11 n12 a n13 c m3 aX ⟨t',hv,hr',ht',hc'⟩ b3 b4
  simp only[C4.v,T.v,Value.tuple.injEq,Value.agg.injEq,Array.mk.injEq,List.cons.injEq,Value.int.injEq,Value.slice.injEq,true_and,and_true]at hv
  obtain⟨_,rfl,rfl,rfl,rfl,rfl,rfl,rfl,rfl,rfl,rfl,rfl⟩:=hv
  refine Zab (λbE=>?_) (λgH=>?_)
  ·have bE:=of_decide_eq_true bE
   refine Zag (Zt7 x m3 (cS.mono aX) (by omega)) ZaF (ZbR λo m4 bG sf ⟨ho,gD,xg⟩=>?_)
   refine⟨m4,mLt aM (mLt aP (mLt aX bG)),Mem.le_refl _,?_⟩
   rw[ht]
   refine⟨o,rfl,sf,⟨?_,xg.less (mLt aM (mLt aP aX))⟩,gD⟩
   show o.er=(ZaM t).1
   rw[ZcU bE]at mC
   rw[ho,<-(Prod.mk.inj mC).1]
  ·have gH:=of_decide_eq_false gH
   have hb:=Zeb gY (by omega)
   have hz':t'.nodes.length=(Zbb x).t.nodes.length:=by rw[<-Zfh t',ht']
   have lE:ZaM t'=ZaM (Zbb x).t:=ZjY (by rw[ht',hb.2.2.1])
   refine⟨by trivial,t'.nodes.length,by omega,t',rfl,hr',hc',by rw[<-Zcw,ht'];exact hb.1,by omega,?_,rfl⟩
   rw[ZgM gY gH]at mC
   rw[lE,<-(Prod.mk.inj mC).1]
theorem ZvH(t:T)(m:Mem)(hr:Rep m t)(cY:t.caps):CX Try.prog 17 #[t.v] m [] (λv m' css=>if T.rgt t then Zlz 0 (λt'=>t'.er=(ZaM t).1) v m' css else Zlz 2 (λt'=>t'=T0) v m' css):=
 (Zj5 t m hr cY).mono λv m' css _ h=>by
  split at h
  ·rename_i hr
   rw[if_pos hr]
   obtain⟨t',e,hr',h1,h2⟩:=h
   exact⟨t',e,hr',h1.1,h2⟩
  ·rename_i hr
   rw[if_neg hr];exact h
theorem Zua(t:T)(m:Mem)(hr:Rep m t)(cY:t.caps):CX Try.prog 29 #[t.v] m [] (λv _ _=>v=(if T.rgt t=false then .tuple #[C4.zero.v,.int .i64 0,.bool false,.int .i64 2]else if(Zbb t).g<=0 then .tuple #[C4.zero.v,.int .i64 0,.bool false,.int .i64 0]else .tuple #[(Zbb t).c.v,.int .i64 (Zbb t).g,.bool true,.int .i64 0])):=by
 apply Zks
 unfold Zf2
 intro b m1 aM _ b1
 refine Zai (Zfq t m1 (hr.mono aM)) λm2 aP=>Zab (λh=>?_) (λh=>?_)
 ·have hf:T.rgt t=false:=by rw[Bool.not_eq_true']at h;exact h
  rw[if_pos hf]
  exact⟨m2,mLt aM aP,Mem.le_refl _,rfl⟩
 have ht:T.rgt t=true:=by rw[Bool.not_eq_false']at h;exact h
 obtain⟨hg,hz⟩:=ZeJ.1 ht
 rw[if_neg (by rw[ht];simp)]
 refine⟨_,trivial,Zt9 t m2 (hr.mono (mLt aM aP)) hg cY hz,ZmM,?_⟩
 rintro n1 n2 n3 n4 n5 n6 n7 n8 n9 n10 n11 n12 a n13 c m3 aX ⟨t',hv,hr',ht',hc'⟩ b3 b4
 simp only[C4.v,T.v,Value.tuple.injEq,Value.agg.injEq,Array.mk.injEq,List.cons.injEq,Value.int.injEq,Value.slice.injEq,true_and,and_true]at hv
 obtain⟨⟨rfl,rfl,rfl,rfl⟩,rfl,rfl,rfl,rfl,rfl,rfl,rfl,rfl,rfl,rfl,rfl⟩:=hv
 have bT:=mLt aM (mLt aP aX)
 refine Zab (λbE=>?_) (λgH=>?_)
 ·rw[if_pos (of_decide_eq_true bE)]
  exact⟨m3,bT,Mem.le_refl _,rfl⟩
 ·rw[if_neg (of_decide_eq_false gH)]
  exact⟨m3,bT,Mem.le_refl _,rfl⟩
theorem Zxw(a b c d a' b' c' d':Int):EqIs Try.prog 29 (.agg #[.int .i64 a,.int .i64 b,.int .i64 c,.int .i64 d]) (.agg #[.int .i64 a',.int .i64 b',.int .i64 c',.int .i64 d']) (a == a'&&b == b'&&c == c'&&d == d'):=by
 refine⟨λw=>?_,λop ox oy w=>Zet (by kernel_rfl) op ox oy _ _ w⟩
 have u3:=Try.underlying3
 have a3:=Try.isAgg3
 have z3:=Try.sizeOf3
 rw[Op.equal,Op.maxDepth,show(10000:Nat)=9999+1 from rfl]
 rw[run_equalIn_agg _ _ _ _ _ (by kernel_rfl) (by kernel_rfl)]
 have hf:(Try.prog.fieldsOf 29).toList=[⟨ "Alt",3,0,false, "", "",0⟩,⟨ "From",3,1,false, "", "",8⟩,⟨ "To",3,2,false, "", "",16⟩,⟨ "Length",3,3,false, "", "",24⟩]:=by kernel_rfl
 rw[hf]
 go_simp
 by_cases h1:a=a' <;> by_cases h2:b=b' <;> by_cases h3:c=c' <;> by_cases h4:d=d' <;> simp[h1,h2,h3,h4]
def Zx6(t:T)(a b c d:Int):Value->Mem->List (List Value)->Prop:=λv m' css=>
 if T.rgt t=false then Zlz 2 (λt'=>t'=T0) v m' css else
 (∃k∈t.cuts,((k.a:Nat):Int)=a/\((k.f:Nat):Int)=b/\((k.t:Nat):Int)=c/\((k.n:Nat):Int)=d/\Zlz 0 (λt'=>t'.er=(t.cutAt k 0).1) v m' css)\/
 ((∀k∈t.cuts,¬(((k.a:Nat):Int)=a/\((k.f:Nat):Int)=b/\((k.t:Nat):Int)=c/\((k.n:Nat):Int)=d))/\Zlz 150 (λt'=>t'=T0) v m' css)
def Zx7(t:T)(m:Mem)(a b c d:Int):Value->Mem->List (List Value)->Prop:=λv m' css=>
 if T.rgt t=false then Zlz 2 (λt'=>t'=T0) v m' css else
 (∃k∈t.cuts,((k.a:Nat):Int)=a/\((k.f:Nat):Int)=b/\((k.t:Nat):Int)=c/\((k.n:Nat):Int)=d/\Zlz 0 (λt'=>t'.er=(t.cutAt k 0).1/\NewT m t') v m' css)\/
 ((∀k∈t.cuts,¬(((k.a:Nat):Int)=a/\((k.f:Nat):Int)=b/\((k.t:Nat):Int)=c/\((k.n:Nat):Int)=d))/\Zlz 150 (λt'=>t'=T0) v m' css)
theorem Zxx(t:T)(a b c d:Int)(m:Mem)(hr:Rep m t)(cY:t.caps):CX Try.prog 31 #[t.v,.agg #[.int .i64 a,.int .i64 b,.int .i64 c,.int .i64 d]] m [] (Zx7 t m a b c d):=by
 apply Zku
 unfold Zf4
 intro b0 m1 aM _ b1 m2 aP _ b2 b3
 have bY:=mLt aM aP
 refine Zai (Zfq t m2 (hr.mono bY)) λm3 aX=>Zab (λh=>?_) (λh=>?_)
 ·have hf:T.rgt t=false:=by rw[Bool.not_eq_true']at h;exact h
  refine⟨m3,mLt bY aX,Mem.le_refl _,?_⟩
  unfold Zx7
  rw[if_pos hf]
  exact⟨T0,rfl,Zl9 _,rfl,ZiM⟩
 have ht:T.rgt t=true:=by rw[Bool.not_eq_false']at h;exact h
 obtain⟨hg,hz⟩:=ZeJ.1 ht
 have xh:¬T.rgt t=false:=by rw[ht];simp
 refine Zag (Zt5 t m3) ZmC ?_
 rintro g fi ca m4 bG ⟨nb,hv,iW⟩
 obtain⟨rfl,rfl,rfl⟩:=ZeR hv
 have gB:=mLt bY (mLt aX bG)
 have kZ:=hr.mono gB
 refine⟨_,Zt6 t m4 nb iW kZ cY (by omega),λx hx=>?_,λxs css tvs m' q=>css=[T0.cs,[.int .i64 0]]/\∀k∈t.cuts.take q,¬(((k.a:Nat):Int)=a/\((k.f:Nat):Int)=b/\((k.t:Nat):Int)=c/\((k.n:Nat):Int)=d),⟨rfl,by simp⟩,?_,?_⟩
 ·obtain⟨c,_,rfl⟩:=List.mem_map.1 hx
  rfl
 ·rintro n1 n2 n3 n4 cs cs1 m5 q dA dE ⟨cC,eG⟩ b5
  have dE:(t.cuts.map Zv4)[q]?=some [.agg #[.int .i64 n1,.int .i64 n2,.int .i64 n3,.int .i64 n4]]:=dE
  rw[List.getElem?_map]at dE
  obtain⟨k,hk,he⟩:=Option.map_eq_some_iff.1 dE
  simp only[Zv4,C4.v,List.cons.injEq,Value.agg.injEq,Array.mk.injEq,Value.int.injEq,true_and,and_true]at he
  obtain⟨rfl,rfl,rfl,rfl⟩:=he
  have mR:=List.mem_of_getElem? hk
  simp only[List.cons.injEq,and_true]at cC
  obtain⟨rfl,rfl⟩:=cC
  refine⟨_,Zxw _ _ _ _ _ _ _ _,Zab (λhy=>?_) (λhn=>?_)⟩
  ·simp only[Bool.and_eq_true,beq_iff_eq]at hy
   obtain⟨⟨⟨rfl,rfl⟩,rfl⟩,rfl⟩:=hy
   refine Zag (Zt8 t k m5 (kZ.mono dA) hg cY hz (ZdR mR)) ZaF (ZbR λt' m6 eA hr' ⟨ht',gA⟩=>?_)
   refine⟨by trivial,m6,mLt gB (mLt dA eA),Mem.le_refl _,?_⟩
   unfold Zx7
   rw[if_neg xh]
   exact .inl ⟨k,mR,rfl,rfl,rfl,rfl,t',rfl,hr',⟨ht',gA.2.less (mLt gB dA)⟩,gA.1⟩
  ·refine⟨by trivial,rfl,λk' hk'=>?_⟩
   rw[Zb8 hk]at hk'
   rcases List.mem_append.1 hk' with hk'|hk'
   ·exact eG k' hk'
   ·rw[List.mem_singleton]at hk';subst hk'
    rintro⟨h1,h2,h3,h4⟩
    rw[h1,h2,h3,h4]at hn
    simp at hn
 ·rintro cs cs1 m5 dA ⟨cC,eG⟩
  rw[List.length_map,List.take_length]at eG
  refine⟨m5,mLt gB dA,Mem.le_refl _,?_⟩
  unfold Zx7
  rw[if_neg xh]
  exact .inr ⟨eG,T0,rfl,Zl9 _,rfl,ZiM⟩
theorem Zzi(t:T)(a b c d:Int)(m:Mem)(hr:Rep m t)(cY:t.caps):CX Try.prog 31 #[t.v,.agg #[.int .i64 a,.int .i64 b,.int .i64 c,.int .i64 d]] m [] (Zx6 t a b c d):=
 (Zxx t a b c d m hr cY).mono λv m' css _ h=>by
  unfold Zx7 at h
  unfold Zx6
  split at h
  ·rename_i hr
   rw[if_pos hr];exact h
  ·rename_i hr
   rw[if_neg hr]
   rcases h with⟨k,hk,h1,h2,h3,h4,t',e,hr',h5,h6⟩|h
   ·exact .inl ⟨k,hk,h1,h2,h3,h4,t',e,hr',h5.1,h6⟩
   ·exact .inr h
theorem ZsQ{t:T}{a b c d:Int}:∀(v:Value)(m':Mem) (css:List (List Value)),Zx6 t a b c d v m' css->Shape.fits (.tup [.agg [.int .u8,.int .u64,.int .u64,.int .u64,.int .u64,.int .i64,.int .i64,.slice],.int .i64]) v=true:=by
 intro v m' css h
 have key:∀e φ,Zlz e φ v m' css->Shape.fits (.tup [.agg [.int .u8,.int .u64,.int .u64,.int .u64,.int .u64,.int .i64,.int .i64,.slice],.int .i64]) v=true:=λe φ ⟨t',h,_⟩=>by rw[h];rfl
 unfold Zx6 at h
 split at h
 ·exact key _ _ h
 ·rcases h with⟨_,_,_,_,_,_,h⟩|⟨_,h⟩
  ·exact key _ _ h
  ·exact key _ _ h
end Go.Proofs.Ytfgfahnakepegaa
set_option linter.unusedVariables false
set_option linter.unusedSimpArgs false
set_option linter.unusedSectionVars false
namespace Go.Proofs.Ytfgfahnakepegaa
open Go Go.Eng Go.Rx Go.Proofs Go.RowKit
set_option maxRecDepth 100000
def ZBz(t:T)(a b c d:Int)(g e:Int):Prop:=
 (T.rgt t=false/\g=0/\e=2)\/
 (T.rgt t=true/\∃k∈t.cuts,((k.a:Nat):Int)=a/\((k.f:Nat):Int)=b/\((k.t:Nat):Int)=c/\((k.n:Nat):Int)=d/\g=Zfl t k/\e=0)\/
 (T.rgt t=true/\(∀k∈t.cuts,¬(((k.a:Nat):Int)=a/\((k.f:Nat):Int)=b/\((k.t:Nat):Int)=c/\((k.n:Nat):Int)=d))/\g=0/\e=150)
def ZBA(t:T)(a b c d:Int):Value->Mem->List (List Value)->Prop:=λv _ _=>∃g e,v=.tuple #[.int .i64 g,.int .i64 e]/\ZBz t a b c d g e
theorem Zzj(t:T)(a b c d:Int)(m:Mem)(hr:Rep m t)(cY:t.caps):CX Try.prog 30 #[t.v,.agg #[.int .i64 a,.int .i64 b,.int .i64 c,.int .i64 d]] m [] (ZBA t a b c d):=by
 apply Zkt
 unfold Zf3
 intro b0 m1 aM _ b1 m2 aP _
 have bY:=mLt aM aP
 refine Zag (Zzi t a b c d m2 (hr.mono bY) cY) ZsQ ?_
 rintro n1 n2 n3 n4 n5 n6 n7 a1 n8 c1 n9 m3 aX iU b3
 have bT:=mLt bY aX
 unfold Zx6 at iU
 have tk:∀{e:Int} {φ:T->Prop},Zlz e φ (.tuple #[.agg #[.int .u8 n1,.int .u64 n2,.int .u64 n3,.int .u64 n4,.int .u64 n5,.int .i64 n6,.int .i64 n7,.slice a1 n8 c1],.int .i64 n9]) m3 []->n9=e/\∃t':T,.agg #[.int .u8 n1,.int .u64 n2,.int .u64 n3,.int .u64 n4,.int .u64 n5,.int .i64 n6,.int .i64 n7,.slice a1 n8 c1]=t'.v/\Rep m3 t'/\φ t':=by
  rintro e φ ⟨t',hv,hr',hp,_⟩
  simp only[Value.tuple.injEq,Array.mk.injEq,List.cons.injEq,Value.int.injEq,true_and,and_true]at hv
  exact⟨hv.2,t',hv.1,hr',hp⟩
 by_cases ht:T.rgt t=false
 ·rw[if_pos ht]at iU
  obtain⟨rfl,-⟩:=tk iU
  exact Zxp rfl (Zah bT ⟨_,_,rfl,.inl ⟨ht,rfl,rfl⟩⟩)
 rw[if_neg ht]at iU
 have ht':T.rgt t=true:=by simpa using ht
 obtain⟨hg,hz⟩:=ZeJ.1 ht'
 rcases iU with⟨k,hk,e1,e2,e3,e4,iU⟩|⟨eG,iU⟩
 ·obtain⟨rfl,t',hv,hr',hp⟩:=tk iU
  have ho:=ZjX (c:=k) t 0 hg (ZdR hk)
  have hz':t'.nodes.length=(t.cutAt k 0).1.nodes.length:=by rw[<-Zfh t',hp]
  have bB:=ho.sz
  refine ZrP rfl ⟨λi _ _=>if i=1 then Ret (.int .i64 t.size)else Ret (.int .i64 t'.size),_,(if_pos rfl).symm,Zoe t m3 (hr.mono bT),λv _ _ e=>by rw[e];rfl,?_⟩
  rintro n m4 bG hn
  obtain rfl:n=t.size:=by simpa[Ret]using hn
  refine⟨_,(if_neg (by omega)).symm,by rw[hv];exact Zoe t' m4 (hr'.mono bG),λv _ _ e=>by rw[e];rfl,?_⟩
  rintro n m5 dA hn M _ _ hM
  obtain rfl:n=t'.size:=by simpa[Ret]using hn
  refine⟨M,mLt bT (mLt bG (mLt dA hM)),Mem.le_refl _,_,_,rfl,.inr (.inl ⟨ht',k,hk,e1,e2,e3,e4,?_,rfl⟩)⟩
  rw[ZcE (by omega),ZcE (by omega),ZaB (by omega) (by omega)]
  unfold Zfl
  omega
 ·obtain⟨rfl,-⟩:=tk iU
  exact Zxp rfl (Zah bT ⟨_,_,rfl,.inr (.inr ⟨ht',eG,rfl,rfl⟩)⟩)
theorem ZsR{e:Int}{L:List C4}:∀(v:Value)(m':Mem) (css:List (List Value)),Zzh e L v m' css->Shape.fits (.tup [.slice,.int .i64]) v=true:=λv _ _ ⟨a,c,e,_⟩=>by rw[e];rfl
def Zz2(L:List C4):Value->Mem->List (List Value)->Prop:=λv m' _=>∃a c,v=.slice a L.length c/\rowRd m' a (ZaP L)/\L.length<=c
theorem Zoi{L:List C4}:∀(v:Value)(m':Mem) (css:List (List Value)),Zz2 L v m' css->Shape.fits .slice v=true:=λv _ _ ⟨a,c,e,_⟩=>by rw[e];rfl
theorem Zo7(L:List C4)(g:Nat)(fi ca:List Value)(m:Mem)(hx:IX Try.prog g fi ca m (L.map Zv4))(hl:L.length<=1000000):CX Try.prog 101 #[.slice none 0 0,.func (.func g) fi.toArray ca.toArray] m [] (Zz2 L):=by
 apply Zbu
 unfold Za4
 intro b1
 refine⟨_,hx,λx hx=>?_,λxs css tvs m' q=>∃a' c',css=[[.slice a' q c']]/\tvs=[.slice a' q c']/\rowRd m' a' (ZaP (L.take q))/\q<=c',⟨none,0,rfl,rfl,.inl rfl,Nat.le_refl _⟩,?_,?_⟩
 ·obtain⟨c,_,rfl⟩:=List.mem_map.1 hx
  rfl
 ·rintro z1 z2 z3 z4 cs a1 n1 c1 m7 q cT hq ⟨a',c',cJ,cA,aR,vt⟩
  obtain rfl:cs=[.slice a' q c']:=by simpa using cJ
  obtain⟨rfl,rfl,rfl⟩:a1=a'/\n1=q/\c1=c':=by simpa using cA
  have hq:(L.map Zv4)[n1]?=some [.agg #[.int .i64 z1,.int .i64 z2,.int .i64 z3,.int .i64 z4]]:=hq
  rw[List.getElem?_map]at hq
  obtain⟨k,hk,he⟩:=Option.map_eq_some_iff.1 hq
  simp only[Zv4,C4.v,List.cons.injEq,Value.agg.injEq,Array.mk.injEq,Value.int.injEq,true_and,and_true]at he
  obtain⟨rfl,rfl,rfl,rfl⟩:=he
  have aS:=(List.getElem?_eq_some_iff.1 hk).1
  intro b2
  refine Zar rfl ?_
  intro b3 aY
  refine Zaa rfl ⟨.inl rfl,ZaP (L.take n1),ZcI k,?_,rfl,aR.mono (Mem.le_add aY _),.inr ⟨b3,0,rfl,?_⟩,ZvG k,?_,?_,?_⟩
  ·rw[Zc6,List.length_take,Nat.min_eq_left (by omega)];rfl
  ·intro j v hj;rw[Nat.zero_add,Mem.add_same];exact hj
  ·simp only[slN];omega
  ·simp only[slN];omega
  ·intro a2 c2 m8 fA dM bN
   refine⟨by trivial,a2,c2,rfl,rfl,?_,bN⟩
   rw[Zb8 hk,Zdd]
   exact dM
 ·rintro cs a1 n1 c1 m7 cT ⟨a',c',cJ,cA,aR,vt⟩
  obtain rfl:cs=_:=by simpa using cJ
  refine Zar rfl ⟨m7,cT,Mem.le_refl _,a',c',?_,?_,?_⟩
  ·simp only[List.length_map]
  ·rw[List.length_map,List.take_length]at aR
   exact aR
  ·rw[List.length_map]at vt
   exact vt
theorem ZsS(L:List C4)(g:Nat)(fi ca:List Value)(m:Mem)(hx:IX Try.prog g fi ca m (L.map Zv4))(hl:L.length<=1000000):CX Try.prog 74 #[.func (.func g) fi.toArray ca.toArray] m [] (Zz2 L):=by
 apply ZcL
 unfold ZbQ
 refine Zag (Zo7 L g fi ca m hx hl) Zoi ?_
 rintro a n c m1 aM ⟨a',c',hv,aR,bN⟩
 cases hv
 exact⟨m1,aM,Mem.le_refl _,_,_,rfl,aR,bN⟩
def OrE(t:T)(L:List C4):Value->Mem->List (List Value)->Prop:=λv m' css=>if T.rgt t=false then v=.tuple #[.slice none 0 0,.int .i64 2]else Zzh 0 L v m' css
def OrC(t:T):Value->Mem->List (List Value)->Prop:=λv m' css=>if T.rgt t=false then v=.tuple #[.slice none 0 0,.int .i64 2]else ∃a c,v=.tuple #[.slice a t.cuts.length c,.int .i64 0]/\rowRd m' a (ZaP t.cuts)/\t.cuts.length<=c
theorem Zxy(t:T)(m:Mem)(hr:Rep m t)(cY:t.caps)(hl:t.cuts.length<=1000000):CX Try.prog 32 #[t.v] m [] (OrC t):=by
 apply Zkv
 unfold Zf5
 intro b m1 aM _
 refine Zai (Zfq t m1 (hr.mono aM)) λm2 aP=>Zab (λh=>?_) (λh=>?_)
 ·have hf:T.rgt t=false:=by rw[Bool.not_eq_true']at h;exact h
  refine Zah (mLt aM aP) ?_
  unfold OrC
  rw[if_pos hf]
 have ht:T.rgt t=true:=by rw[Bool.not_eq_false']at h;exact h
 obtain⟨hg,hz⟩:=ZeJ.1 ht
 have bY:=mLt aM aP
 refine Zag (Zt5 t m2) ZmC ?_
 rintro g fi ca m3 aX ⟨nb,hv,iW⟩
 obtain⟨rfl,rfl,rfl⟩:=ZeR hv
 have bT:=mLt bY aX
 refine Zag (ZsS t.cuts _ _ _ m3 (Zt6 t m3 nb iW (hr.mono bT) cY (by omega)) hl) Zoi ?_
 rintro a n c m4 bG ⟨a',c',hv,aR,bN⟩
 cases hv
 refine⟨m4,mLt bT bG,Mem.le_refl _,?_⟩
 unfold OrC
 rw[if_neg (by rw[ht];simp)]
 exact⟨_,_,rfl,aR,bN⟩
theorem Zub(t:T)(m:Mem)(hr:Rep m t)(cY:t.caps)(hl:t.cuts.length<=1000000):CX Try.prog 32 #[t.v] m [] (OrE t t.cuts):=
 (Zxy t m hr cY hl).mono λv m' css _ h=>by
  unfold OrC at h
  unfold OrE
  split at h
  ·rename_i hf;rw[if_pos hf];exact h
  ·rename_i hf
   obtain⟨a,c,hv,aR,_⟩:=h
   rw[if_neg hf];exact⟨a,c,hv,aR⟩
theorem Zrk{t:T}:(ZaM t).2.length<=t.nodes.length:=by
 have:∀(k:Nat)(t:T),(ZcT k t).2.length<=k:=by
  intro k
  induction k with
  | zero=>intro t;simp[ZcT]
  | succ k ih=>
   intro t
   rw[ZcT]
   split
   ·simp
   ·simp;exact ih _
 exact this _ _
theorem Zuc(t:T)(m:Mem)(hr:Rep m t)(cY:t.caps):CX Try.prog 28 #[t.v] m [] (OrE t (ZaM t).2):=by
 apply Zjc
 unfold Zfr
 intro b
 refine Zai (Zfq t m hr) λm1 aM=>Zab (λh=>?_) (λh=>?_)
 ·have hf:T.rgt t=false:=by rw[Bool.not_eq_true']at h;exact h
  refine Zah aM ?_
  unfold OrE
  rw[if_pos hf]
 have ht:T.rgt t=true:=by rw[Bool.not_eq_false']at h;exact h
 obtain⟨hg,hz⟩:=ZeJ.1 ht
 have bE:=Zrk (t:=t)
 refine⟨λxs css tvs m' q=>∃(x:T)(done:List C4)(a:Option Addr)(c:Nat),css=[x.cs]/\xs=[.slice a done.length c]/\tvs=[.slice a done.length c]/\rowRd m' a (ZaP done)/\Rep m' x/\x.caps/\x.good=true/\x.nodes.length<=120/\(ZaM t).2=done++(ZaM x).2/\q=x.nodes.length,⟨_,t,[],none,0,rfl,rfl,rfl,.inl rfl,hr.mono aM,cY,hg,hz,rfl,rfl⟩,?_⟩
 rintro a n c cs a1 n1 c1 m2 q aP ⟨x,done,a',c',cC,aZ,cA,aR,cS,qL,gY,iH,mC,hq⟩
 obtain rfl:cs=x.cs:=by simpa using cC
 obtain⟨rfl,rfl,rfl⟩:a=a'/\n=done.length/\c=c':=by simpa using aZ
 obtain⟨rfl,rfl,rfl⟩:a1=a/\n1=done.length/\c1=c:=by simpa using cA
 refine⟨_,trivial,Zt9 x m2 cS gY qL iH,ZmM,?_⟩
 rintro n1 n2 n3 n4 n5 n6 n7 n8 n9 n10 n11 n12 a2 n13 c2 m3 aX ⟨t',hv,hr',ht',hc'⟩ b3 b4
 simp only[C4.v,T.v,Value.tuple.injEq,Value.agg.injEq,Array.mk.injEq,List.cons.injEq,Value.int.injEq,Value.slice.injEq,true_and,and_true]at hv
 obtain⟨⟨rfl,rfl,rfl,rfl⟩,rfl,rfl,rfl,rfl,rfl,rfl,rfl,rfl,rfl,rfl,rfl⟩:=hv
 have bT:=mLt aM (mLt aP aX)
 refine Zab (λpV=>?_) (λgH=>?_)
 ·have pV:=of_decide_eq_true pV
  rw[ZcU pV,List.append_nil]at mC
  refine⟨m3,bT,Mem.le_refl _,?_⟩
  unfold OrE
  rw[if_neg (by rw[ht];simp),mC]
  exact⟨_,_,rfl,aR.mono aX⟩
 ·have gH:=of_decide_eq_false gH
  have hb:=Zeb gY (by omega)
  have hz':t'.nodes.length=(Zbb x).t.nodes.length:=by rw[<-Zfh t',ht']
  have lE:ZaM t'=ZaM (Zbb x).t:=ZjY (by rw[ht',hb.2.2.1])
  rw[ZgM gY gH]at mC
  have aU:=congrArg List.length mC
  rw[List.length_append,List.length_cons]at aU
  intro b5 aY
  refine⟨.inl rfl,ZaP done,ZcI (Zbb x).c,Zc6 _,rfl,(aR.mono aX).mono (Mem.le_add aY _),.inr ⟨b5,0,rfl,?_⟩,ZvG _,by omega,by omega,?_⟩
  ·intro j v hj;rw[Nat.zero_add,Mem.add_same];exact hj
  intro a4 c4 m4 bG sy M dP dY eZ
  refine⟨by trivial,t'.nodes.length,by omega,t',done++[(Zbb x).c],a4,c4,rfl,?_,?_,?_,hr'.mono dP,hc',by rw[<-Zcw,ht'];exact hb.1,by omega,?_,rfl⟩
  ·rw[List.length_append];rfl
  ·rw[List.length_append];rfl
  ·rw[Zdd];exact rowRd.mono sy eZ
  ·rw[mC,lE,List.append_assoc];rfl
def Zc9(t:T):List Value:=[.int .u64 t.s0,.int .u64 t.s1,.int .u64 t.s2,.int .u64 t.s3]
def Zcb(L:List T):List Value:=(L.map Zc9).flatten
theorem ZhB(L:List T):(Zcb L).length=L.length*4:=by
 induction L with
 | nil=>rfl
 | cons c L ih=>simp[Zcb,Zc9]at ih ⊢;omega
theorem Zkx(L:List T)(c:T):Zcb (L++[c])=Zcb L++Zc9 c:=by simp[Zcb]
def ZvI(t:T):Value->Mem->List (List Value)->Prop:=λv m' _=>if T.rgt t=false then v=.tuple #[.slice none 0 0,.int .i64 2]else ∃a c,v=.tuple #[.slice a (Zan t).length c,.int .i64 0]/\rowRd m' a (Zcb (Zan t))
theorem Zoj{t:T}:∀(v:Value)(m':Mem) (css:List (List Value)),ZvI t v m' css->Shape.fits (.tup [.slice,.int .i64]) v=true:=by
 intro v m' css h
 unfold ZvI at h
 split at h
 ·rw[h];rfl
 ·obtain⟨_,_,h,_⟩:=h
  rw[h];rfl
theorem Zwv(t:T)(m:Mem)(hr:Rep m t)(cY:t.caps):CX Try.prog 18 #[t.v] m [] (ZvI t):=by
 apply Zkw
 unfold Zf6
 intro b m1 aM _
 refine Zai (Zfq t m1 (hr.mono aM)) λm2 aP=>Zab (λh=>?_) (λh=>?_)
 ·have hf:T.rgt t=false:=by rw[Bool.not_eq_true']at h;exact h
  refine Zah (mLt aM aP) ?_
  unfold ZvI
  rw[if_pos hf]
 have ht:T.rgt t=true:=by rw[Bool.not_eq_false']at h;exact h
 obtain⟨hg,hz⟩:=ZeJ.1 ht
 have bY:=mLt aM aP
 refine Zag (Zrg t m2 (hr.mono bY) (Zhp cY)) ZgR ?_
 rintro a n c m3 aX ⟨a',c',hv,hL,AI⟩
 cases hv
 have aR:=ZaL hL
 have vu:(Zan t).length<=120:=by
  have:=ZgI t
  omega
 refine⟨λxs css tvs m' q=>∃(i:Nat)(a:Option Addr)(c:Nat),i<=(Zan t).length/\css=[]/\xs=[.slice a i c,.int .i64 i]/\tvs=[.slice a i c]/\rowRd m' a (Zcb ((Zan t).take i))/\q=(Zan t).length - i,⟨_,0,none,0,by omega,rfl,rfl,rfl,.inl rfl,rfl⟩,?_⟩
 rintro a3 n1 c3 n2 a4 n3 c4 m4 q bG ⟨i,a5,c5,hi,-,aZ,cA,iY,hq⟩
 simp only[List.cons.injEq,Value.slice.injEq,Value.int.injEq,true_and,and_true]at aZ cA
 obtain⟨⟨rfl,rfl,rfl⟩,rfl⟩:=aZ
 obtain⟨rfl,rfl,rfl⟩:=cA
 refine Zab (λaS=>?_) (λbM=>?_)
 ·have aQ:n3 < (Zan t).length:=by have:=of_decide_eq_true aS;omega
  obtain⟨x,hx⟩:=Zca aQ
  obtain⟨b0,o0,eH,dN⟩:=ZcH (aR.mono bG) hx
  refine⟨b0,o0,eH,⟨by omega,by omega⟩,_,_,_,_,_,_,_,_,dN,?_⟩
  intro b6
  refine Zaa rfl ?_
  intro b7 aY
  refine⟨.inl rfl,Zcb ((Zan t).take n3),Zc9 x,?_,rfl,iY.mono (Mem.le_add aY _),.inr ⟨b7,0,rfl,?_⟩,?_,by omega,by omega,?_⟩
  ·rw[ZhB,List.length_take,Nat.min_eq_left hi]
  ·intro j v hj;rw[Nat.zero_add,Mem.add_same];exact hj
  ·intro u hu
   simp only[Zc9,List.mem_cons,List.not_mem_nil,or_false]at hu
   rcases hu with rfl|rfl|rfl|rfl <;> rfl
  intro a8 c8 m8 fA fM
  refine⟨by trivial,(Zan t).length - (n3+1),by omega,n3+1,a8,c8,by omega,rfl,?_,rfl,?_,rfl⟩
  ·rw[ZaB (by omega) (by omega)];rfl
  ·rw[Zb8 hx,Zkx];exact fM
 ·have zi:n3=(Zan t).length:=by have:=of_decide_eq_false bM;omega
  subst zi
  rw[List.take_length]at iY
  refine⟨m4,mLt bY (mLt aX bG),Mem.le_refl _,?_⟩
  unfold ZvI
  rw[if_neg (by rw[ht];simp)]
  exact⟨_,_,rfl,iY⟩
end Go.Proofs.Ytfgfahnakepegaa
set_option linter.unusedVariables false
namespace Go.Proofs.Ytfgfahnakepegaa
open Go Go.Eng Go.Proofs Go.RowKit
open Go.Value (int slice agg bool string tuple func)
open Go.IntKind (u8 u64 i64)
set_option maxRecDepth 100000
noncomputable def ZvJ:Env:={ EB with
 loops:=(λi=>bif Nat.beq i 3 then⟨[(8,.int .i64)],[3],[],false⟩ else⟨[],[],[],false⟩) }
def Zok(p0a:Option Addr)(p0n p0c:Nat)(m:Mem)(R:RT):Prop:=
 ∀(b b_1:Nat),∃(I:IT),(∃(n:Nat),I [int i64 0] [[int u64 0,int u64 0,int u64 0,int u64 0]] [] m n)/\∀(n:Int)(cs:List Value)(m':Mem)(n_1:Nat),Mem.le m m'->I [int i64 n] [cs] [] m' n_1->br
 (decide (n < (↑p0n:Int))) (∃(b_2:Nat),∃(o:Nat),p0a=some (Addr.mk b_2 o none)/\Zae n p0n/\∃(v:Value),m' b_2 (o+Int.toNat n*1)=some v/\chk (ZaD u8 v&&true) ((0:Int)<=(6:Int)/\Zae
 (Int.fdiv (RowKit.intOf v) ((2:Int) ^ 6)) 4/\Eng.Zv0 cs (0+Int.toNat (Int.fdiv (RowKit.intOf v) ((2:Int) ^ 6))*1) λ(v_1:Value)=>chk (ZaD u8 v&&decide (u8=u8)) ((0:Int)<=IntKind.wrap u8
 (↑(BitVec.toNat (BitVec.ofInt 8 (RowKit.intOf v)&&&BitVec.ofInt 8 (63:Int))):Int)/\chk (ZaD u64 v_1&&decide (u64=u64)) (Zae (Int.fdiv (RowKit.intOf v) ((2:Int) ^ 6)) 4/\chk (Nat.ble (0+Int.toNat
 (Int.fdiv (RowKit.intOf v) ((2:Int) ^ 6))*1+1) (List.length cs)) ([some (Box.mk b_1 [] 24 4 false true),some (Box.mk b [int u64 0,int u64 0,int u64 0,int u64 0] 24 4 false true)]=[some (Box.mk b_1 [] 24 4
 false true),some (Box.mk b [int u64 0,int u64 0,int u64 0,int u64 0] 24 4 false true)]/\∃(n':Nat),n' < n_1/\I [int i64 (IntKind.wrap i64 (n+(1:Int)))] [Zax cs (0+Int.toNat (Int.fdiv (RowKit.intOf v)
 ((2:Int) ^ 6))*1) [int u64 (IntKind.wrap u64 (↑(BitVec.toNat (BitVec.ofInt 64 (RowKit.intOf v_1)|||BitVec.ofInt 64 (IntKind.wrap u64 ((1:Int)*(2:Int) ^ min (Int.toNat (IntKind.wrap u8 (↑(BitVec.toNat
 (BitVec.ofInt 8 (RowKit.intOf v)&&&BitVec.ofInt 8 (63:Int))):Int))) 64)))):Int))]] [] m' n'))))) (chk (Nat.beq (List.length cs) 4&&ZbC cs) (∃(m'':Mem),Mem.le m m''/\Mem.le m'' m'/\R (agg (Array.mk cs))
 m'' []))
theorem ZsT(p0a:Option Addr)(p0n p0c:Nat)(m:Mem)(R:RT)(h:Zok p0a p0n p0c m R):CX Try.prog 21 #[.slice p0a p0n p0c] m [] R:=
 Zad (E:=ZvJ) ZaE mix Try.func21 [.v (.slice p0a p0n p0c)] [] (by kernel_rfl) (Eq.mp (by kernel_rfl) h)
noncomputable def Zzk:Env:={ EB with
 frzNew:=[1] }
def Zud(aD aE aF aG:Int)(m:Mem)(R:RT):Prop:=
 ∀(b:Nat)(m':Mem),Mem.le m m'->Mem.reads m' b 0 [int u64 aD,int u64 aE,int u64 aF,int u64 aG]->∀(b:Nat),∃(b:Bool),EqIs Try.prog 24 (agg (Array.mk [int u64 aD,int u64 aE,int u64 aF,int
 u64 aG])) (agg (Array.mk [int u64 0,int u64 0,int u64 0,int u64 0])) b/\br b (∃(m'':Mem),Mem.le m m''/\Mem.le m'' m'/\R (agg (Array.mk [int u8 0,int u64 0,int u64 0,int u64 0,int u64 0,int i64 0,int
 i64 0,slice none 0 0])) m'' []) (∃(m'':Mem),Mem.le m m''/\Mem.le m'' m'/\R (agg (Array.mk [int u8 2,int u64 aD,int u64 aE,int u64 aF,int u64 aG,int i64 0,int i64 0,slice none 0 0])) m'' [])
theorem Zxz(aD aE aF aG:Int)(m:Mem)(R:RT)(h:Zud aD aE aF aG m R):CX Try.prog 66 #[.agg #[.int .u64 aD,.int .u64 aE,.int .u64 aF,.int .u64 aG]] m [] R:=
 Zad (E:=Zzk) ZaE mix Try.func66 [.v (.agg #[.int .u64 aD,.int .u64 aE,.int .u64 aF,.int .u64 aG])] [] (by kernel_rfl) (Eq.mp (by kernel_rfl) h)
noncomputable def ZvK:Env:=EB
def Zol(p0:Int)(m:Mem)(R:RT):Prop:=
 ∀(b b:Nat),Mem.free m b->∃(R_1:RT),True/\CX Try.prog 21 (Array.mk [slice (some (Addr.mk b 0 none)) 1 1]) (Mem.add m b [int u8 p0]) [] R_1/\Zat (Shape.agg [Shape.int u64,Shape.int u64,Shape.int u64,
 Shape.int u64]) R_1/\∀(n n_1 n_2 n_3:Int)(m':Mem),Mem.le (Mem.add m b [int u8 p0]) m'->R_1 (agg (Array.mk [int u64 n,int u64 n_1,int u64 n_2,int u64 n_3])) m' []->∃(R_2:RT),True/\CX Try.prog 66
 (Array.mk [agg (Array.mk [int u64 n,int u64 n_1,int u64 n_2,int u64 n_3])]) m' [] R_2/\Zat (shT) R_2/\∀(n n_4 n_5 n_6 n_7 n_8 n_9:Int)(a:Option Addr)(n_10 c:Nat)(m'_1:Mem),Mem.le m' m'_1->R_2 (agg
 (Array.mk [int u8 n,int u64 n_4,int u64 n_5,int u64 n_6,int u64 n_7,int i64 n_8,int i64 n_9,slice a n_10 c])) m'_1 []->∃(m'':Mem),Mem.le m m''/\Mem.le m'' m'_1/\R (agg (Array.mk [int u8 n,int u64 n_4,int
 u64 n_5,int u64 n_6,int u64 n_7,int i64 n_8,int i64 n_9,slice a n_10 c])) m'' []
theorem ZsU(p0:Int)(m:Mem)(R:RT)(h:Zol p0 m R):CX Try.prog 36 #[.int .u8 p0] m [] R:=
 Zad (E:=ZvK) ZaE mix Try.func36 [.v (.int .u8 p0)] [] (by kernel_rfl) (Eq.mp (by kernel_rfl) h)
end Go.Proofs.Ytfgfahnakepegaa
set_option linter.unusedVariables false
set_option linter.unusedSimpArgs false
set_option linter.unusedSectionVars false
namespace Go.Proofs.Ytfgfahnakepegaa
open Go Go.Eng Go.Rx Go.Proofs Go.RowKit
set_option maxRecDepth 100000
theorem ZCI:∀c:Fin 256,IntKind.u64.wrap (((BitVec.ofInt 64 0|||BitVec.ofInt 64 (IntKind.u64.wrap (1*2 ^ min (IntKind.u8.wrap ((BitVec.ofInt 8 (c.val:Int)&&&BitVec.ofInt 8 63).toNat:Int)).toNat 64))).toNat:Nat):Int)=((2 ^ (c.val % 64):Nat):Int):=by decide +kernel
theorem ZBB{c:Nat}(hc:c < 256):IntKind.u64.wrap (((BitVec.ofInt 64 0|||BitVec.ofInt 64 (IntKind.u64.wrap (1*2 ^ min (IntKind.u8.wrap ((BitVec.ofInt 8 (c:Int)&&&BitVec.ofInt 8 63).toNat:Int)).toNat 64))).toNat:Nat):Int)=((2 ^ (c % 64):Nat):Int):=ZCI ⟨c,hc⟩
theorem ZAo:∀c:Fin 256,(0:Int)<=IntKind.u8.wrap ((BitVec.ofInt 8 (c.val:Int)&&&BitVec.ofInt 8 63).toNat:Int)/\Int.fdiv (c.val:Int) (2 ^ 6)=((c.val / 64:Nat):Int):=by decide +kernel
def ZCp(t:T):Value:=.agg (Zc9 t).toArray
theorem ZsV(c:Nat)(hc:c < 256)(b o k:Nat)(m:Mem)(h:m b o=some (.int .u8 (c:Nat))):CX Try.prog 21 #[.slice (some ⟨b,o,none⟩) 1 k] m [] (Ret (ZCp (Zao c))):=by
 apply ZsT
 unfold Zok
 intro b1 b2
 have hs:=ZAo ⟨c,hc⟩
 simp only at hs
 refine⟨λxs css tvs m' q=>(xs=[.int .i64 0]/\css=[[.int .u64 0,.int .u64 0,.int .u64 0,.int .u64 0]]/\q=1)\/(xs=[.int .i64 1]/\css=[Zc9 (Zao c)]/\q=0),⟨1,.inl ⟨rfl,rfl,rfl⟩⟩,?_⟩
 rintro n cs m1 q aM (⟨hx,cJ,hq⟩|⟨hx,cJ,hq⟩)
 ·obtain rfl:n=0:=by simpa using hx
  obtain rfl:cs=_:=by simpa using cJ
  refine Zxp rfl ⟨b,o,rfl,⟨by omega,by omega⟩,.int .u8 (c:Nat),?_,Zaa rfl ⟨by decide,?_,?_⟩⟩
  ·have:=aM _ _ _ h
   simpa using this
  ·show Zae (Int.fdiv (c:Int) (2 ^ 6)) 4
   rw[hs.2]
   exact⟨by omega,by omega⟩
  ·show Eng.Zv0 _ (0+(Int.fdiv (c:Int) (2 ^ 6)).toNat*1) _
   rw[hs.2,Int.toNat_natCast,Nat.mul_one,Nat.zero_add]
   have hj:c / 64=0\/c / 64=1\/c / 64=2\/c / 64=3:=by omega
   have dE:([.int .u64 0,.int .u64 0,.int .u64 0,.int .u64 0]:List Value)[c / 64]?=some (.int .u64 0):=by
    rcases hj with e|e|e|e <;> rw[e] <;> rfl
   refine Zar dE (Zaa rfl ⟨hs.1,Zaa rfl ⟨?_,Zaa ?_ ⟨by trivial,0,by omega,.inr ⟨?_,?_,rfl⟩⟩⟩⟩)
   ·show Zae (Int.fdiv (c:Int) (2 ^ 6)) 4
    rw[hs.2]
    exact⟨by omega,by omega⟩
   ·show Nat.ble (0+(Int.fdiv (c:Int) (2 ^ 6)).toNat*1+1) 4=true
    rw[hs.2]
    rw[Nat.ble_eq]
    omega
   ·rw[ZaB (by omega) (by omega)];rfl
   ·show[Zax _ (0+(Int.fdiv (c:Int) (2 ^ 6)).toNat*1) [.int .u64 (IntKind.u64.wrap (((BitVec.ofInt 64 0|||BitVec.ofInt 64 (IntKind.u64.wrap (1*2 ^ min (IntKind.u8.wrap ((BitVec.ofInt 8 (c:Int)&&&BitVec.ofInt 8 63).toNat:Int)).toNat 64))).toNat:Nat):Int))]]=_
    rw[hs.2,ZBB hc,Int.toNat_natCast,Nat.mul_one,Nat.zero_add]
    unfold Zc9 Zao T.s0 T.s1 T.s2 T.s3 Zma
    rcases hj with e|e|e|e <;> simp[e,Zax]
 ·obtain rfl:n=1:=by simpa using hx
  obtain rfl:cs=_:=by simpa using cJ
  exact ZrP rfl (Zaa rfl (Zah aM rfl))
theorem Zzl(a b c d:Int)(hz:¬(a=0/\b=0/\c=0/\d=0))(m:Mem)(hr:Rep m (.node 2 a b c d 0 0 none 0 [])):CX Try.prog 66 #[.agg #[.int .u64 a,.int .u64 b,.int .u64 c,.int .u64 d]] m [] (ZdM λt=>t=.node 2 a b c d 0 0 none 0 []):=by
 apply Zxz
 unfold Zud
 intro b1 m1 aM _ b2
 refine⟨_,ZsG _ _ _ _ _ _ _ _,ZrP ?_ ⟨m1,aM,Mem.le_refl _,_,rfl,hr.mono aM,rfl⟩⟩
 cases h:(a == 0&&b == 0&&c == 0&&d == 0)with
 | false=>rfl
 | true=>simp only[Bool.and_eq_true,beq_iff_eq]at h;exact absurd ⟨h.1.1.1,h.1.1.2,h.1.2,h.2⟩ hz
theorem ZvL(c:Nat)(hc:c < 256):¬(Zma c 0=0/\Zma c 1=0/\Zma c 2=0/\Zma c 3=0):=by
 rintro⟨h0,h1,h2,h3⟩
 have hp:(0:Int) < ((2 ^ (c % 64):Nat):Int):=by
  have:0 < 2 ^ (c % 64):=Nat.two_pow_pos _
  omega
 have hj:c / 64=0\/c / 64=1\/c / 64=2\/c / 64=3:=by omega
 unfold Zma at h0 h1 h2 h3
 rcases hj with e|e|e|e
 ·rw[if_pos e]at h0;omega
 ·rw[if_pos e]at h1;omega
 ·rw[if_pos e]at h2;omega
 ·rw[if_pos e]at h3;omega
theorem Zww(c:Nat)(hc:c < 256)(m:Mem):CX Try.prog 36 #[.int .u8 (c:Nat)] m [] (ZdM λt=>t=Zao c):=by
 apply ZsU
 unfold Zol
 intro b0 b1 hf
 refine Zag (ZsV c hc b1 0 1 _ (Mem.le_refl _ _ _ _ (by rw[Mem.add_same];rfl))) (λv _ _ e=>by rw[e];rfl) ?_
 rintro n1 n2 n3 n4 m1 aM hv
 simp only[Ret,ZCp,Zc9,Value.agg.injEq,Array.mk.injEq,List.cons.injEq,Value.int.injEq,true_and,and_true]at hv
 obtain⟨rfl,rfl,rfl,rfl⟩:=hv
 refine Zag (Zzl _ _ _ _ (ZvL c hc) m1 (ZnX c m1)) ZaF (ZbR λt' m2 aP hr' ht'=>?_)
 subst ht'
 exact⟨m2,mLt (Mem.le_add hf _) (mLt aM aP),Mem.le_refl _,_,rfl,hr',rfl⟩
def Zz3(t:T):Bool:=decide (t.check=0)&&decide (t.size<=60)
theorem Zzm(t:T):∀u∈t.cs,u.oneCell'=true:=by
 intro u hu
 simp only[T.cs,List.mem_cons,List.not_mem_nil,or_false]at hu
 rcases hu with rfl|rfl|rfl|rfl|rfl|rfl|rfl|rfl <;> rfl
end Go.Proofs.Ytfgfahnakepegaa
set_option linter.unusedVariables false
namespace Go.Proofs.Ytfgfahnakepegaa
open Go Go.Eng Go.Proofs Go.RowKit
open Go.Value (int slice agg bool string tuple func)
open Go.IntKind (u8 u64 i64)
set_option maxRecDepth 100000
end Go.Proofs.Ytfgfahnakepegaa
set_option linter.unusedVariables false
set_option linter.unusedSimpArgs false
set_option linter.unusedSectionVars false
namespace Go.Proofs.Ytfgfahnakepegaa
open Go Go.Eng Go.Rx Go.Proofs Go.RowKit
set_option maxRecDepth 100000
structure OkT (t:T):Prop where
 good:t.good=true
 caps:t.caps
 fits:Zz3 t=true
theorem Zhq{t:T}(h:t.check=0):t.clean=true:=by
 unfold T.check at h
 cases hc:t.clean with
 | true=>rfl
 | false=>rw[if_pos hc]at h;cases h
theorem ZxA{t:T}(h:Zz3 t=true):t.check=0/\t.good=true/\t.nodes.length<=60:=by
 unfold Zz3 at h
 rw[Bool.and_eq_true,decide_eq_true_iff,decide_eq_true_iff]at h
 have h1:=ZgF (Zhq h.1)
 have h2:=h.2
 rw[ZcE h1.2]at h2
 exact⟨h.1,h1.1,by omega⟩
theorem OkT.clean{t:T}(h:OkT t):t.clean=true:=Zhq (ZxA h.fits).1
theorem Zcj{m:Mem}{b:Nat}{l:List T}(hf:m.free b)(hr:∀t∈l,Rep m t)(hl:l.length<=1000000000000000):RepL (m.add b (Rx.ZcM l)) (some ⟨b,0,none⟩) l:=
 Zd7 (.inr ⟨b,0,rfl,λj v hj=>by rw[Nat.zero_add,Mem.add_same];exact hj⟩) (λt ht=>(hr t ht).mono (Mem.le_add hf _)) hl
end Go.Proofs.Ytfgfahnakepegaa
set_option linter.unusedVariables false
set_option linter.unusedSimpArgs false
namespace Go.Proofs.Ytfgfahnakepegaa
open Go Go.Eng Go.Rx Go.Proofs Go.RowKit Go.ChangeShapes Go.WideShapes Go.ChangeAt
set_option maxRecDepth 100000
theorem ZAp:ownKnob Try.prog.godebug=none:=by kernel_rfl
theorem Zzn:laidOutB Try.prog=true:=by kernel_rfl
theorem ZBC{n:Int}(h:(Lit.int .u8 n).wf=true):0<=n/\n < 256:=by
 have:0<=n/\n<=255:=by simpa[Lit.wf,IntKind.min,IntKind.max,IntKind.signed,IntKind.bits]using h
 omega
theorem Zzo{n:Int}(h:(Lit.int .i64 n).wf=true) : -9223372036854775808<=n/\n<=9223372036854775807:=by
 simpa[Lit.wf,IntKind.min,IntKind.max,IntKind.signed,IntKind.bits]using h
end Go.Proofs.Ytfgfahnakepegaa
set_option linter.unusedVariables false
set_option linter.unusedSimpArgs false
namespace Go.Proofs.Ytfgfahnakepegaa
open Go Go.Eng Go.Rx Go.Proofs Go.RowKit Go.ChangeShapes Go.WideShapes Go.ChangeAt
set_option maxRecDepth 100000
theorem ZBD{w:World}{a:Addr}{v:Value}(h:w.cell? ((a.add (0*8)).add 0)=some v):∃b o,a=⟨b,o,none⟩:=by
 obtain⟨b,o,sp⟩:=a
 cases sp with
 | none=>exact⟨b,o,rfl⟩
 | some s=>
  exfalso
  have e:(Addr.add (Addr.add ⟨b,o,some s⟩ (0*8)) 0)=⟨b,o,some s⟩:=rfl
  rw[e]at h
  unfold World.cell? at h
  split at h
  ·simp at h
  ·cases h
theorem ZBE{n:Int}(h:(Lit.int .u64 n).wf=true):0<=n/\n < 18446744073709551616:=by
 have:0<=n/\n<=18446744073709551615:=by simpa[Lit.wf,IntKind.min,IntKind.max,IntKind.signed,IntKind.bits]using h
 omega
section
variable {H:Type} {enc:TypeId×Value->H} {W:World} {eM:Bool}
theorem ZsW{n:Nat}{c0 c1 c2 c3:Value}{x:DataW H×List MemPlace}(h:DataW.trod enc Try.prog W 0 (λ_=>true) eM n 24 [c0,c1,c2,c3]=some x):∃s0 s1 s2 s3,c0=.int .u64 s0/\c1=.int .u64 s1/\c2=.int .u64 s2/\c3=.int .u64 s3/\(0<=s0/\s0 < 18446744073709551616)/\(0<=s1/\s1 < 18446744073709551616)/\(0<=s2/\s2 < 18446744073709551616)/\(0<=s3/\s3 < 18446744073709551616):=by
 obtain⟨y0,y1,y2,y3,n',_,h0,h1,h2,h3⟩:=trod_array4 Try.underlying24 (by kernel_rfl) h
 obtain⟨n0,k0,_,w0⟩:=DataW.trod_int Try.underlying22 h0
 obtain⟨n1,k1,_,w1⟩:=DataW.trod_int Try.underlying22 h1
 obtain⟨n2,k2,_,w2⟩:=DataW.trod_int Try.underlying22 h2
 obtain⟨n3,k3,_,w3⟩:=DataW.trod_int Try.underlying22 h3
 simp at k0 k1 k2 k3
 exact⟨n0,n1,n2,n3,k0,k1,k2,k3,ZBE w0,ZBE w1,ZBE w2,ZBE w3⟩
theorem Zom:Try.prog.underlying 27=some (.struct #[⟨ "Kind",5,0,false, "", "",0⟩,⟨ "Set",24,1,false, "", "",8⟩,⟨ "Min",3,5,false, "", "",40⟩,⟨ "Max",3,6,false, "", "",48⟩,⟨ "Subs",25,7,false, "", "",56⟩]):=by kernel_rfl
instance:Inhabited T:=⟨T0⟩
theorem ZvM:∀(n:Nat){cs:List Value}{x:DataW H×List MemPlace},DataW.trod enc Try.prog W 0 (λ_=>true) eM n 27 cs=some x->∃t:T,cs=t.cs/\RepW (ZxZ W) t:=by
 intro n
 induction n using Nat.strongRecOn with
 | ind n ih=>
  intro cs x h
  obtain⟨xs,k,hk,_,aU,aZ,hx⟩:=DataW.trod_struct Zom h
  have sA:Try.prog.cellsOf 27=8:=by kernel_rfl
  rw[sA]at aU
  obtain⟨c0,c1,c2,c3,c4,c5,c6,c7,rfl⟩:∃a b c d e f g h,cs=[a,b,c,d,e,f,g,h]:=by
   match cs,aU with
   | [a,b,c,d,e,f,g,h],_=>exact⟨a,b,c,d,e,f,g,h,rfl⟩
  obtain⟨z0,z1,z2,z3,z4,rfl⟩:∃a b c d e,xs=[a,b,c,d,e]:=by
   match xs,aZ with
   | [a,b,c,d,e],_=>exact⟨a,b,c,d,e,rfl⟩
  have k0:Try.prog.cellsOf 5=1:=by kernel_rfl
  have k1:Try.prog.cellsOf 24=4:=by kernel_rfl
  have k2:Try.prog.cellsOf 3=1:=by kernel_rfl
  have k4:Try.prog.cellsOf 25=1:=by kernel_rfl
  have g0:DataW.trod enc Try.prog W 0 (λ_=>true) eM k 5 (List.take (Try.prog.cellsOf 5) (List.drop 0 [c0,c1,c2,c3,c4,c5,c6,c7]))=some z0:=hx 0 _ rfl
  have g1:DataW.trod enc Try.prog W 0 (λ_=>true) eM k 24 (List.take (Try.prog.cellsOf 24) (List.drop 1 [c0,c1,c2,c3,c4,c5,c6,c7]))=some z1:=hx 1 _ rfl
  have g2:DataW.trod enc Try.prog W 0 (λ_=>true) eM k 3 (List.take (Try.prog.cellsOf 3) (List.drop 5 [c0,c1,c2,c3,c4,c5,c6,c7]))=some z2:=hx 2 _ rfl
  have g3:DataW.trod enc Try.prog W 0 (λ_=>true) eM k 3 (List.take (Try.prog.cellsOf 3) (List.drop 6 [c0,c1,c2,c3,c4,c5,c6,c7]))=some z3:=hx 3 _ rfl
  have g4:DataW.trod enc Try.prog W 0 (λ_=>true) eM k 25 (List.take (Try.prog.cellsOf 25) (List.drop 7 [c0,c1,c2,c3,c4,c5,c6,c7]))=some z4:=hx 4 _ rfl
  rw[k0]at g0
  rw[k1]at g1
  rw[k2]at g2 g3
  rw[k4]at g4
  replace g0:DataW.trod enc Try.prog W 0 (λ_=>true) eM k 5 [c0]=some z0:=g0
  replace g1:DataW.trod enc Try.prog W 0 (λ_=>true) eM k 24 [c1,c2,c3,c4]=some z1:=g1
  replace g2:DataW.trod enc Try.prog W 0 (λ_=>true) eM k 3 [c5]=some z2:=g2
  replace g3:DataW.trod enc Try.prog W 0 (λ_=>true) eM k 3 [c6]=some z3:=g3
  replace g4:DataW.trod enc Try.prog W 0 (λ_=>true) eM k 25 [c7]=some z4:=g4
  obtain⟨kk,q0,_,w0⟩:=DataW.trod_int Try.underlying5 g0
  obtain⟨s0,s1,s2,s3,rfl,rfl,rfl,rfl,o0,o1,o2,o3⟩:=ZsW g1
  obtain⟨mn,q2,_,w2⟩:=DataW.trod_int Try.underlying3 g2
  obtain⟨mx,q3,_,w3⟩:=DataW.trod_int Try.underlying3 g3
  simp only[List.cons.injEq,and_true]at q0 q2 q3
  subst q0 q2 q3
  have ok:OkN kk s0 s1 s2 s3 mn mx:=⟨ZBC w0,o0,o1,o2,o3,Zzo w2,Zzo w3⟩
  rcases DataW.trod_slice Try.underlying25 g4 with⟨q4,_⟩|⟨a,len,cap,elems,rest,n',hn',q4,_,_,hl,hm,AJ,xi,_⟩
  ·simp only[List.cons.injEq,and_true]at q4
   subst q4
   exact⟨.node kk s0 s1 s2 s3 mn mx none 0 [],rfl,Zmo.2 ⟨by simp[T.subs],.inl rfl,ok⟩⟩
  ·simp only[List.cons.injEq,and_true]at q4
   subst q4
   rw[sA]at xi
   obtain⟨F,hF⟩:=Go.Deep.choose_lt (α:=T) (n:=len) (p:=λi t=>(∀j v,t.cs[j]?=some v->W.cell? ((a.add (i*8)).add j)=some v)/\RepW (ZxZ W) t) (λi hi=>by
    have h1:=xi i hi
    rw[List.getElem?_eq_getElem (by omega)]at h1
    obtain⟨cs',h2,h3⟩:=Option.bind_eq_some_iff.1 h1
    obtain⟨_,gL,hc⟩:=World.cells?_some h2
    obtain⟨t,rfl,ht⟩:=ih n' (by omega) h3
    refine⟨t,λj v hj=>?_,ht⟩
    have aS:=(List.getElem?_eq_some_iff.1 hj).1
    rw[hc j (by rw[gL]at aS;exact aS)];exact hj)
   have uL:cap<=9223372036854775807:=by simp[maxLen]at hm;omega
   refine⟨.node kk s0 s1 s2 s3 mn mx (some a) cap ((List.range len).map F),by simp[T.cs,T.sl,T.k,T.s0,T.s1,T.s2,T.s3,T.mn,T.mx,T.a,T.c,T.subs],Zmo.2 ⟨by simp[T.subs];omega,?_,ok⟩⟩
   by_cases h0:len=0
   ·left;subst h0;rfl
   ·right
    obtain⟨b,o,rfl⟩:=ZBD ((hF 0 (by omega)).1 0 _ rfl)
    refine⟨b,o,rfl,Zmp λi t hi=>?_⟩
    rw[T.subs,List.getElem?_map]at hi
    obtain⟨i',hi',rfl⟩:=Option.map_eq_some_iff.1 hi
    have aS:i < len:=by have:=(List.getElem?_eq_some_iff.1 hi').1;simpa using this
    have e:i'=i:=by rw[List.getElem?_range aS]at hi';exact(Option.some.inj hi').symm
    subst e
    refine⟨λj v hj=>?_,(hF i' aS).2⟩
    have:=(hF i' aS).1 j v hj
    rw[ZcJ,ZcJ]at this
    exact this
theorem ZvN{v:Value}{d:DataW H}{ps:List MemPlace}{r:Reach}{b0:Nat}(kC:Value.okWide Try.prog W r b0 27 v)(h:DataW.Trod enc Try.prog W 0 (λ_=>true) eM 27 v d ps):
  ∃t:T,v=t.v/\RepW (ZxZ W) t:=by
 obtain⟨n,h⟩:=h
 obtain⟨cs,rfl,bB⟩:=okWide_struct Zom kC
 obtain⟨L,rfl⟩:∃L:List Value,cs=L.toArray:=⟨cs.toList,by simp⟩
 obtain⟨t,ht,hr⟩:=ZvM n h
 replace ht:L=t.cs:=ht
 exact⟨t,by rw[ht];rfl,hr⟩
end
end Go.Proofs.Ytfgfahnakepegaa
