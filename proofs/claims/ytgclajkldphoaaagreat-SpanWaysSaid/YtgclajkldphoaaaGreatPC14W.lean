/- Part of the proof: conditions and contracts of functions of this program. No condition of its own. -/
import Derived.Test.YtgclajkldphoaaaGreatPC14Q
import Derived.Test.YtgclajkldphoaaaGreatPC13R
import Derived.Test.YtgclajkldphoaaaGreatMr
set_option linter.unusedVariables false
set_option linter.unusedSimpArgs false
set_option linter.unusedSectionVars false
namespace Go.Proofs.YtgclajkldphoaaaGreat
open Go Go.Eng Go.Rx Go.Proofs Go.RowKit
set_option maxRecDepth 100000
theorem ZiF{m:Mem}{n:Nd}(h:NRep m n):m n.b 0=some (.int .u8 n.t.k)/\m.reads n.b 1 [.int .u64 n.t.s0,.int .u64 n.t.s1,.int .u64 n.t.s2,.int .u64 n.t.s3]/\m n.b 5=some (.int .i64 n.t.mn)/\m n.b 6=some (.int .i64 n.t.mx)/\
  m n.b 8=some (.int .i64 (n.id:Nat))/\m n.b 9=some (.int .i64 (n.grp:Nat))/\m n.b 10=some (.slice n.a n.subs.length n.c):=by
 have h:=(ZdC.1 h).1
 have g:∀(j:Nat) v,n.cs[j]?=some v->m n.b j=some v:=λj v hj=>by have:=h j v hj;rwa [Nat.zero_add]at this
 refine⟨g 0 _ rfl,λj v hj=>?_,g 5 _ rfl,g 6 _ rfl,g 8 _ rfl,g 9 _ rfl,g 10 _ rfl⟩
 have bF:=(List.getElem?_eq_some_iff.1 hj).1
 have bF:j < 4:=bF
 have:j=0\/j=1\/j=2\/j=3:=by omega
 rcases this with rfl|rfl|rfl|rfl <;> (cases hj;first|exact g 1 _ rfl|exact g 2 _ rfl|exact g 3 _ rfl|exact g 4 _ rfl)
theorem Zly{m:Mem}{n x:Nd}{j:Nat}(h:NRep m n)(hx:n.subs[j]?=some x):∃b0 o,n.a=some ⟨b0,o,none⟩/\m b0 (o+j)=some (ptr x.b 0):=by
 rcases(ZdC.1 h).2.2.2 with h|⟨b0,o,h1,h2⟩
 ·rw[h]at hx;simp at hx
 ·exact⟨b0,o,h1,(h2.get hx).1⟩
theorem Zz6{m:Mem}{n x:Nd}{j:Nat}(h:NRep m n)(hx:n.subs[j]?=some x):n.t.subs[j]?=some x.t:=by
 rw[<-(ZdC.1 h).2.1.2,List.getElem?_map,hx];rfl
theorem Zt0{m:Mem}{n:Nd}(h:NRep m n):n.t.subs.length=n.subs.length:=by
 rw[<-(ZdC.1 h).2.1.2];simp
theorem Zt1{m:Mem}{n:Nd}(h:NRep m n):n.subs.length<=1000000000000000:=by
 rw[<-Zt0 h];exact(ZdB (ZdC.1 h).2.1.1).1
theorem Zg0:∀{l seen:List Nat},seen.Nodup->(Zjt seen l).Nodup
 | [],seen,h=>h
 | i::l,seen,h=>by
  unfold Zjt
  split
  ·exact Zg0 h
  ·rename_i hi
   exact Zg0 (List.nodup_append.2 ⟨h,by simp,λa ha b hb e=>by simp at hb;subst hb;exact hi (e ▸ ha)⟩)
def Zz7(t:T):Prop:=t.k=5->0<=t.mn/\t.mn<=16/\(t.mx=-1\/(1<=t.mx/\t.mn<=t.mx/\t.mx<=16))
theorem Zef{t:T}(h:t.right=true):Zz7 t:=λh5=>by
 rcases ZfK h with h|h|h|h|h|h
 ·omega
 ·omega
 ·omega
 ·omega
 ·exact h.2.2
 ·omega
theorem Zsy{s:List Nat}{t:T}{d i:Nat}(h:t.right=true)(hi:i<=s.length):t.ends s d i=ddp (t.lists s d i).flatten:=
 ZqT s t d i hi λh5=>by
  obtain⟨h1,_,h3⟩:=Zef h h5
  exact⟨h1,h3.imp id λh=>h.2.1⟩
theorem ZzA{l:List Nat}(hn:l.Nodup)(h:∀x∈l,x<=512):l.length<=513:=by
 have:=List.Nodup.length_le_of_subset hn (l₂:=List.range 513) (λx hx=>List.mem_range.2 (by have:=h x hx;omega))
 simpa using this
theorem ZbV{s:List Nat}{t:T}{d i:Nat}(h:t.right=true)(hs:s.length<=512)(hi:i<=s.length):(t.ends s d i).length<=513:=by
 refine ZzA ?_ λx hx=>?_
 ·rw[Zsy h hi];exact Zg0 (by simp)
 ·have:=Zhx s t d i hi x hx;omega
structure Wk (m:Mem)(fb kb:Nat)(Z:Nat->Prop)(root:Nd)(sa:Option Addr)(s:List Nat)(sc:Nat):Prop where
 fin:Fin (m.off Z) fb kb root sa s sc
 has:HasM m kb Z root s
 z:ZOk m kb Z
theorem Wk.le{m m':Mem}{fb kb:Nat}{Z:Nat->Prop}{root:Nd}{sa:Option Addr}{s:List Nat}{sc:Nat}(h:Wk m fb kb Z root sa s sc)(hm:m.le m'):Wk m' fb kb Z root sa s sc:=⟨h.fin.mono (Zgd hm),h.has.le hm,h.z.le hm⟩
theorem Wk.next{m m':Mem}{fb kb:Nat}{Z:Nat->Prop}{root:Nd}{sa:Option Addr}{s:List Nat}{sc:Nat}(h:Wk m fb kb Z root sa s sc)(hm:(but m kb).le m')(hh:HasM m' kb Z root s):Wk m' fb kb Z root sa s sc:=⟨h.fin.mono (ZuQ h.z.1 hm),hh,h.z.next hm⟩
theorem Wk.fb{m:Mem}{fb kb:Nat}{Z:Nat->Prop}{root:Nd}{sa:Option Addr}{s:List Nat}{sc:Nat}(h:Wk m fb kb Z root sa s sc):Fin (but m kb) fb kb root sa s sc:=h.fin.mono (Zo4 h.z.1)
theorem Wk.fm{m:Mem}{fb kb:Nat}{Z:Nat->Prop}{root:Nd}{sa:Option Addr}{s:List Nat}{sc:Nat}(h:Wk m fb kb Z root sa s sc):Fin m fb kb root sa s sc:=h.fin.mono (Mem.off_le _ _)
def Zyt(kb:Nat)(Z:Nat->Prop)(root:Nd)(s X:List Nat):RTY:=λv m' _ _=>∃a c,v=.slice a X.length c/\rowRd (m'.off Z) a (nsL X)/\HasM m' kb Z root s
theorem Zbd{kb:Nat}{Z:Nat->Prop}{root:Nd}{s X:List Nat}:∀(v:Value)(m':Mem) (css:List (List Value)) (tvs:List Value),Zyt kb Z root s X v m' css tvs->Shape.fits Shape.slice v=true:=λv _ _ _ ⟨a,c,h,_⟩=>by rw[h];rfl
def ZmB(fb kb:Nat)(Z:Nat->Prop)(root:Nd)(sa:Option Addr)(s:List Nat)(sc:Nat)(n:Nd)(d i:Nat):Prop:=
 ∀m:Mem,Wk m fb kb Z root sa s sc->CXY Tryz.prog 44 #[.pointer (some ⟨fb,0,none⟩),.pointer (some ⟨n.b,0,none⟩),.int .i64 (d:Nat),.int .i64 (i:Nat)] m (λb=>b=kb) [] [] (Zyt kb Z root s (n.t.ends s d i))
theorem Zqc{P:Program}{g:FuncId}{args:Array Value}{m m0:Mem}{kb:Nat}{R0:RTY}{K:Option Addr->Nat->Nat->Mem->Prop}(h:CXY P g args m (λb=>b=kb) [] [] R0)(hk:∃es,m.k kb=some es)(hf:∀(v:Value)(m':Mem) (css:List (List Value)) (tvs:List Value),R0 v m' css tvs->Shape.fits Shape.slice v=true)
  (k:∀a n c m',(but m kb).le m'->R0 (.slice a n c) m' [] []->K a n c m'):
  ∃(Y:Nat->Prop),∃(R:Value->Mem->List (List Value)->List Value->Prop),CXY P g args m Y [] [] R/\(∀(t:Tok),t∈[]->∀(b:Nat),t.blk=some b->Y b)/\
   (∀(b:Nat),Y b->(∃(t:Tok),t∈[]/\t.blk=some b)\/(Mem.free (but m0 kb) b/\Mem.k (but m0 kb) b=none)/\((∃(o:Nat),∃(v:Value),m b o=some v)\/∃(e:List (Value×Value)),Mem.k m b=some e)/\True)/\
   (∀(v:Value)(m':Mem) (css:List (List Value)) (tvs:List Value),R v m' css tvs->Shape.fits Shape.slice v=true)/\
   ∀(a:Option Addr)(n c:Nat)(m':Mem),Mem.le (Mem.off m Y) m'->(NewM m m' λ(b:Nat)=>Y b\/Mem.free m b)->R (.slice a n c) m' [] []->K a n c m':=
 ⟨λb=>b=kb,R0,h,by simp,λb hb=>.inr ⟨by subst hb;exact⟨Zk7,Zna⟩,.inr (by subst hb;exact hk),trivial⟩,hf,λa n c m' h1 _ h2=>k a n c m' h1 h2⟩
theorem Zn2(n:Nd)(d:Nat)(m:Mem)(h:NRep m n)(hk:Zz7 n.t)(h5:n.t.k=5)(hd:d<=1000000000000000):CX Tryz.prog 62 #[.pointer (some ⟨n.b,0,none⟩),.int .i64 (d:Nat)] m [] (Ret (.tuple #[.int .i64 (Zbb n.t.mn n.t.mx d:Nat),.bool (Zii n.t.mx d)])):=by
 apply Zlv
 unfold ZhE
 obtain⟨h1,h2,h3⟩:=hk h5
 obtain⟨_,_,g5,g6,_⟩:=ZiF h
 have fH:IntKind.i64.wrap ((d:Int)+1)=((d+1:Nat):Int):=by rw[ZaN (by omega) (by omega)];rfl
 simp only[fH]
 refine⟨_,g6,Zaa rfl (Zab (λhq=>⟨_,g6,Zaa rfl (Zaf (Mem.le_refl _) ?_)⟩) (λhq=>⟨_,g5,Zaa rfl (Zaf (Mem.le_refl _) ?_)⟩))⟩
 ·have hq':n.t.mx≠-1:=by simpa[RowKit.intOf]using hq
  unfold Ret Zbb Zii
  rw[if_neg hq',beq_eq_false_iff_ne.2 hq',Bool.false_or];rfl
 ·have hq':n.t.mx=-1:=by simpa[RowKit.intOf]using hq
  unfold Ret Zbb Zii
  rw[if_pos hq',hq']
  congr 3
  show Value.int .i64 (if n.t.mn < _ then n.t.mn else _)=_
  congr 1
  split <;> omega
theorem ZpM{α:Type}{p:α->Bool}{l:List α}{j:Nat}{x:α}(h:l[j]?=some x):(l.take (j+1)).filter p=if p x=true then(l.take j).filter p++[x]else(l.take j).filter p:=by
 rw[ZbZ h,List.filter_append]
 simp only[List.filter_cons,List.filter_nil]
 split <;> simp
theorem ZpN(fb kb:Nat)(Z:Nat->Prop)(root:Nd)(sa:Option Addr)(s:List Nat)(sc:Nat)(n:Nd)(hn:n∈root.all)(h5:n.t.k=5)(d i:Nat)(hd:d<=1000000000000000)(hi:i<=s.length)(ih:∀x∈n.subs,ZmB fb kb Z root sa s sc x 0 i)(m:Mem)(hw:Wk m fb kb Z root sa s sc):
  CXY Tryz.prog 63 #[.pointer (some ⟨fb,0,none⟩),.pointer (some ⟨n.b,0,none⟩),.int .i64 (d:Nat),.int .i64 (i:Nat)] m (λb=>b=kb) [] [] (Zyt kb Z root s (Zch (hd0 s n.t.subs) n.t.mn n.t.mx d i)):=by
 have hg:=hw.fin.good n hn
 have lI:=Zef hg
 have c7:=ZbF root hw.fm.rep n hn
 obtain⟨x0,hC⟩:∃x,n.t.subs=[x]:=by
  rcases ZfK hg with h|h|h|h|h|h <;> first|omega|exact h.2.1|exact h.2
 obtain⟨x,cJ⟩:∃x,n.subs=[x]:=by
  have:=Zt0 c7
  rw[hC]at this
  match bV:n.subs,this with
  | [x],_=>exact⟨x,rfl⟩
 have hx:n.subs[0]?=some x:=by rw[cJ];rfl
 have jH:x0=x.t:=by
  have:=Zz6 c7 hx
  rw[hC]at this;simpa using this
 subst jH
 have gZ:x∈n.subs:=by rw[cJ];simp
 have eL:x.t.right=true:=hw.fin.good x (ZeS hn gZ)
 obtain⟨X,hX⟩:∃X,X=x.t.ends s 0 i:=⟨_,rfl⟩
 have se:X.length<=513:=by rw[hX];exact ZbV eL hw.fin.len hi
 have dG:Zch (hd0 s n.t.subs) n.t.mn n.t.mx d i=if Zii n.t.mx d=true then X.filter (λj=>decide (i < j)||decide ((d:Int) < n.t.mn))else[]:=by
  unfold Zch
  rw[hC,hX,Za3];simp[hd0]
 apply ZeJ
 unfold Zc2
 refine⟨_,trivial,Zn2 n d m c7 lI h5 hd,λv m' css h=>by unfold Ret at h;rw[h];rfl,?_⟩
 rintro n1 b1 m1 bH p8
 simp only[Ret,Value.tuple.injEq,Array.mk.injEq,List.cons.injEq,Value.int.injEq,Value.bool.injEq,true_and,and_true]at p8
 obtain⟨rfl,rfl⟩:=p8
 have eM:=hw.le bH
 refine Zab (λhq=>⟨none,0,?_,?_,eM.has⟩) (λhq=>?_)
 ·rw[dG,if_neg (by simpa using hq)];rfl
 ·rw[dG,if_neg (by simpa using hq)];exact .inl rfl
 have tz:Zii n.t.mx d=true:=by simpa using hq
 rw[dG,if_pos tz]
 have p9:=ZbF root eM.fm.rep n hn
 obtain⟨_,_,_,_,_,_,g10⟩:=ZiF p9
 obtain⟨b0,o,ha,hp⟩:=Zly p9 hx
 obtain⟨es1,iZ,_⟩:=eM.has
 refine⟨_,g10,Zaa rfl ⟨b0,o,ha,⟨by omega,by simp[slN,cJ]⟩,_,hp,Zqc (ih x gZ m1 eM) ⟨es1,iZ⟩ Zbd ?_⟩⟩
 rintro a nn c m2 bL ⟨a',c',hv,bG,dI⟩
 obtain⟨rfl,rfl,rfl⟩:a=a'/\nn=(x.t.ends s 0 i).length/\c=c':=by simpa using hv
 rw[<-hX]at bG
 rw[<-hX]
 have dS:=eM.next bL dI
 obtain⟨p,nC⟩:∃p:Nat->Bool,p=λj=>decide (i < j)||decide ((d:Int) < n.t.mn):=⟨_,rfl⟩
 rw[<-nC]
 have oB:∀j,((X.take j).filter p).length<=513:=λj=>by
  have h1:=List.length_filter_le p (X.take j)
  have h2:=List.length_take_le j X
  have h3:(X.take j).length<=X.length:=by rw[List.length_take];omega
  omega
 refine⟨λxs css tvs m' q=>∃(j:Nat)(a2:Option Addr)(c2:Nat),j<=X.length/\xs=[.slice a2 ((X.take j).filter p).length c2,.int .i64 (j:Nat)]/\tvs=[.slice a2 ((X.take j).filter p).length c2]/\(but m2 kb).le m'/\HasM m' kb Z root s/\SeenAt m' (λb=>¬Z b) a2 ((X.take j).filter p)/\q=X.length - j,⟨_,0,none,0,by omega,rfl,rfl,Zik _ _,dI,.inl ⟨rfl,rfl⟩,rfl⟩,?_⟩
 rintro ab aa c2 af ac ad ae m3 ai _ ⟨j,a2,c2',hj,nD,fI,dH,fU,hS,rfl⟩
 simp only[List.cons.injEq,Value.int.injEq,Value.slice.injEq,true_and,and_true]at nD
 obtain⟨⟨rfl,rfl,rfl⟩,rfl⟩:=nD
 obtain⟨rfl,rfl,rfl⟩:ac=ab/\ad=((X.take j).filter p).length/\ae=c2:=by simpa using fI
 have oC:=dS.next dH fU
 have gQ:=ZbF root oC.fm.rep n hn
 obtain⟨es3,dZ,_⟩:=fU
 refine Zab (λbF=>?_) (λcR=>?_)
 ·have bI:j < X.length:=by have:=of_decide_eq_true bF;omega
  obtain⟨y,hy⟩:∃y,X[j]?=some y:=⟨_,List.getElem?_eq_getElem bI⟩
  have fH:IntKind.i64.wrap ((j:Int)+1)=((j+1:Nat):Int):=by rw[ZaN (by omega) (by omega)];rfl
  have bY:=ZpM (p:=p) hy
  rcases((bG.mono (Zo4 dS.z.1)).mono dH)with h|⟨b,o2,h1,h2⟩
  ·have:X=[]:=by simpa[nsL]using h
   rw[this]at bI;simp at bI
  obtain⟨_,_,g5,_⟩:=ZiF gQ
  simp only[Int.toNat_natCast,Nat.mul_one,fH]
  refine⟨b,o2,h1,⟨by omega,by omega⟩,.int .i64 (y:Nat),h2 j _ (by rw[nsL,List.getElem?_map,hy];rfl),p y,Zaa rfl (Zab (λkJ=>⟨by trivial,Zaq ?_⟩) (λkJ=>⟨_,g5,Zaa rfl ⟨by trivial,Zaq ?_⟩⟩)),Zab (λnE=>Zaa rfl λag qC=>⟨.inl (by trivial),nsL ((X.take j).filter p),[.int .i64 (y:Nat)],?_,rfl,hS.row.mono (Mem.le_add qC _),.inr ⟨ag,0,rfl,?_⟩,?_,?_,?_,λa4 c4 m4 cA cO hf=>?_⟩) (λnE=>⟨_,?_,j+1,ac,ae,by omega,?_,?_,dH,⟨es3,dZ,by assumption⟩,?_,rfl⟩)⟩
  ·have:(i:Int) < (y:Nat):=by have:=of_decide_eq_true kJ;simpa[RowKit.intOf]using this
   rw[nC];simp;left;omega
  ·have:¬(i:Int) < (y:Nat):=by have:=of_decide_eq_false kJ;simpa[RowKit.intOf]using this
   rw[nC]
   have hn:decide (i < y)=false:=by simp;omega
   simp only[hn,Bool.false_or];rfl
  ·simp[nsL]
  ·intro q v hq;rw[Nat.zero_add,Mem.add_same];exact hq
  ·intro u hu;obtain rfl:u=.int .i64 (y:Nat):=by simpa using hu
   rfl
  ·have:=oB j;omega
  ·have:=oB j;omega
  ·have hM:m3.le m4:=mLt (Mem.le_add qC _) cA
   refine⟨_,?_,j+1,a4,c4,by omega,?_,?_,mLt dH hM,HasM.le ⟨es3,dZ,by assumption⟩ hM,?_,rfl⟩
   ·omega
   ·rw[bY,if_pos nE];simp
   ·rw[bY,if_pos nE];simp
   ·rw[bY,if_pos nE]
    refine hS.push (M:=m3.add ag [.int .i64 (y:Nat)]) cO hf λb3 dW eA=>oC.z.new ⟨es3,dZ⟩ (ZiE (by simp) dW).2 eA
  ·omega
  ·rw[bY,if_neg (by simp[nE])]
  ·rw[bY,if_neg (by simp[nE])]
  ·rw[bY,if_neg (by simp[nE])];exact hS
 ·have:j=X.length:=by have:=of_decide_eq_false cR;omega
  subst this
  rw[List.take_length]at hS ⊢
  refine⟨ac,ae,rfl,?_,⟨es3,dZ,by assumption⟩⟩
  rcases hS with⟨h1,_⟩|⟨b,h1,h2,h3,_⟩
  ·rw[h1];exact .inl rfl
  ·exact .inr ⟨b,0,h1,λq v hq=>by rw[Mem.off_at h2];exact h3 q v hq⟩
theorem Zwp(fb nb:Nat)(d i:Int)(m:Mem):CX Tryz.prog 60 #[.pointer (some ⟨fb,0,none⟩),.pointer (some ⟨nb,0,none⟩),.int .i64 d,.int .i64 i] m [] (λv m' _=>∃c0 c1 c2 c3,v=.func (.func 91) #[] #[.pointer (some ⟨c0,0,none⟩),.pointer (some ⟨c1,0,none⟩),.pointer (some ⟨c2,0,none⟩),.pointer (some ⟨c3,0,none⟩)]/\
  (m'.reads c0 0 [.pointer (some ⟨nb,0,none⟩)]/\m'.reads c1 0 [.int .i64 i]/\m'.reads c2 0 [.pointer (some ⟨fb,0,none⟩)]/\m'.reads c3 0 [.int .i64 d])/\(m.k c0=none/\m.k c1=none/\m.k c2=none/\m.k c3=none)):=by
 apply Zfc
 unfold Zc1
 intro b m1 bH hb _ _ hk b1 m2 bL dW _ _ fP b2 m3 bX eA _ _ iB b3 m4 cA kC _ _ nW
 have none_le:∀{a c:Mem} {x:Nat},a.le c->c.k x=none->a.k x=none:=λ{a c x} h e=>by
  cases he:a.k x with
  | none=>rfl
  | some u=>rw[h.k _ _ he]at e;cases e
 have yh:=mLt bH bL
 have wG:=mLt yh bX
 exact⟨m4,mLt wG cA,Mem.le_refl _,b1,b3,b,b2,rfl,⟨dW.mono (mLt bX cA),kC,hb.mono (mLt bL (mLt bX cA)),eA.mono cA⟩,none_le bH fP,none_le wG nW,hk,none_le yh iB⟩
theorem Zlz{M:Mem}{b kb:Nat}{LL:List (List Nat)}{q x:Nat}(hq:LL[q]?=some [x])(hk:∃es,M.k kb=some es):ZwP LL kb q [.slice (some ⟨b,0,none⟩) 1 1] (M.add b [.int .i64 (x:Nat)]):=
 ⟨⟨[x],some ⟨b,0,none⟩,1,hq,rfl,.inr ⟨b,0,rfl,λj v hj=>by rw[Nat.zero_add,Mem.add_same];exact hj⟩⟩,hk⟩
theorem ZiG{m2:Mem}{kb:Nat}{Z:Nat->Prop}{root:Nd}{s X:List Nat}{LL:List (List Nat)}{q:Nat}{a:Option Addr}{nn c:Nat}(hq:LL[q]?=some X)(h:Zyt kb Z root s X (.slice a nn c) m2 [] []):ZwP LL kb q [.slice a nn c] m2:=by
 obtain⟨a',c',hv,bG,es,eE,_⟩:=h
 obtain⟨rfl,rfl,rfl⟩:a=a'/\nn=X.length/\c=c':=by simpa using hv
 exact⟨⟨X,a,c,hq,rfl,bG.mono (Mem.off_le _ _)⟩,es,eE⟩
structure Cap (B:Mem)(fb:Nat)(n:Nd)(d i c0 c1 c2 c3:Nat):Prop where
 c0:B c0 0=some (.pointer (some ⟨n.b,0,none⟩))
 c1:B c1 0=some (.int .i64 (i:Nat))
 c2:B c2 0=some (.pointer (some ⟨fb,0,none⟩))
 c3:B c3 0=some (.int .i64 (d:Nat))
theorem Cap.mono{B B':Mem}{fb:Nat}{n:Nd}{d i c0 c1 c2 c3:Nat}(h:Cap B fb n d i c0 c1 c2 c3)(hB:B.le B'):Cap B' fb n d i c0 c1 c2 c3:=⟨hB.c _ _ _ h.c0,hB.c _ _ _ h.c1,hB.c _ _ _ h.c2,hB.c _ _ _ h.c3⟩
theorem wr1{j:Nat}(h:j<=1000000000000000):IntKind.i64.wrap ((j:Int)+1)=((j+1:Nat):Int):=by rw[ZaN (by omega) (by omega)];rfl
theorem Zt2(fb kb:Nat)(Z:Nat->Prop)(root:Nd)(sa:Option Addr)(s:List Nat)(sc:Nat)(n:Nd)(hn:n∈root.all)(d i:Nat)(hd:d<=1000000000000000)(hi:i<=s.length)(lR:n.t.k=3->d<=n.subs.length)
  (ihs:∀x∈n.subs,∀j,j<=s.length->ZmB fb kb Z root sa s sc x 0 j) (ih3:n.t.k=3->d < n.subs.length->∀j,j<=s.length->ZmB fb kb Z root sa s sc n (d+1) j)
  (ih5:n.t.k=5->∀j∈Zch (hd0 s n.t.subs) n.t.mn n.t.mx d i,ZmB fb kb Z root sa s sc n (Zbb n.t.mn n.t.mx d) j) (m:Mem) (hw:Wk m fb kb Z root sa s sc) (c0 c1 c2 c3:Nat) (hc:Cap (but m kb) fb n d i c0 c1 c2 c3):
  IXY Tryz.prog 91 [] [.pointer (some ⟨c0,0,none⟩),.pointer (some ⟨c1,0,none⟩),.pointer (some ⟨c2,0,none⟩),.pointer (some ⟨c3,0,none⟩)] m (λb=>b=kb) (n.t.lists s d i).length (ZwP (n.t.lists s d i) kb) (λm'=>HasM m' kb Z root s):=by
 have hg:=hw.fin.good n hn
 have lI:=Zef hg
 have jU:=ZbF root hw.fb.rep n hn
 have c7:=NRep.mono (Zik m kb) _ jU
 have kB:=hc.mono (Zik m kb)
 obtain⟨g0,g1,g5,g6,g8,g9,g10⟩:=ZiF c7
 obtain⟨_,_,_,_,_,_,g10B⟩:=ZiF jU
 have bO:=Zt0 c7
 have jA:=Zt1 c7
 obtain⟨es,eE,cG⟩:=hw.has
 have one:∀{b:Nat},m.free b->(n.t.lists s d i)=[[i]]->∃LL,True:=λ_ _=>⟨(),trivial⟩
 have oneSub:n.t.k=5\/n.t.k=6->∃x,n.subs=[x]/\n.t.subs=[x.t]:=λh=>by
  obtain⟨x0,hC⟩:∃x,n.t.subs=[x]:=by
   rcases ZfK hg with h'|h'|h'|h'|h'|h' <;> first|omega|exact h'.2.1|exact h'.2
  have hl:=bO
  rw[hC]at hl
  match bV:n.subs,hl with
  | [x],_=>
   have:=Zz6 c7 (j:=0) (x:=x) (by rw[bV];rfl)
   rw[hC]at this
   exact⟨x,rfl,by rw[hC];simpa using this⟩
 apply ZdH 0 [] []
 unfold Zcs
 intro l
 refine⟨_,kB.c0,Zaa rfl (Zaa rfl ⟨_,g0,Zaa rfl (Zab (λh1=>?_) (λh1=>Zaa rfl (Zab (λh2=>?_) (λh2=>Zaa rfl (Zab (λh6=>?_) (λh6=>Zaa rfl (Zab (λh4=>?_) (λh4=>Zaa rfl (Zab (λh3=>?_) (λh3=>Zaa rfl (Zab (λh5=>?_) (λh5=>?_))))))))))))⟩)⟩
 ·
  have hk:n.t.k=1:=by simpa[RowKit.intOf]using h1
  have gD:n.t.lists s d i=[[i]]:=by unfold T.lists;rw[if_pos hk]
  rw[gD]
  exact⟨_,kB.c1,Zaa rfl λb hb=>⟨⟨by trivial,0,rfl,by simp,Zlz rfl ⟨es,eE⟩⟩,rfl,HasM.le hw.has (Mem.le_add hb _)⟩⟩
 ·
  have hk:n.t.k=2:=by simpa[RowKit.intOf]using h2
  have gD:n.t.lists s d i=(match s[i]? with
   | some c=>if n.t.hasB c=true then[[i+1]]else[]
   | none=>[]):=by unfold T.lists;rw[if_neg (by omega),if_pos hk];cases s[i]? <;> rfl
  have hs:=hw.fm.str
  have gR:=hw.fm.byt
  have yi:=hw.fin.len
  refine⟨λ_ _ _=>Ret (.bool (n.t.hasB ((s[i]?).getD 0))),_,kB.c1,_,kB.c2,Zaa rfl (Zaa rfl ⟨_,hs,Zaa rfl (Zaa rfl (Zab (λbF=>?_) (λcR=>?_)))⟩)⟩
  ·have bI:i < s.length:=by have:=of_decide_eq_true bF;simpa[RowKit.intOf,slN]using this
   obtain⟨c,cQ⟩:∃c,s[i]?=some c:=⟨_,List.getElem?_eq_getElem bI⟩
   obtain⟨⟨b,o,mY,uo⟩,jT⟩:=gR.get cQ
   rw[cQ]at gD
   simp only at gD
   refine⟨_,kB.c0,Zaa rfl (Zaa rfl ⟨_,_,_,_,g1,_,kB.c2,Zaa rfl (Zaa rfl ⟨_,hs,_,kB.c1,Zaa rfl (Zaa rfl ⟨b,o,mY,⟨by simp[RowKit.intOf],by simp[RowKit.intOf,slN];omega⟩,.int .u8 (c:Nat),?_,_,rfl,?_,?_,?_⟩)⟩)⟩)⟩
   ·simp only[RowKit.intOf,Int.toNat_natCast,Nat.mul_one];exact uo
   ·rw[cQ];exact Zsw n.t c jT m (ZdC.1 c7).2.1.1
   ·intro v m' css h;unfold Ret at h;rw[h];rfl
   ·intro bb m' hm' hR M hM _
    have hR:bb=n.t.hasB c:=by rw[cQ]at hR;simpa[Ret]using hR
    refine Zab (λhq=>⟨_,hM.c _ _ _ kB.c1,Zaa rfl λb2 eA=>?_⟩) (λhq=>?_)
    ·rw[if_pos (by rw[<-hR];exact hq)]at gD
     rw[gD]
     simp only[RowKit.intOf,wr1 (show i<=1000000000000000 by omega)]
     exact⟨⟨by trivial,0,rfl,by simp,Zlz rfl ⟨es,hM.k _ _ eE⟩⟩,rfl,HasM.le (HasM.le hw.has hM) (Mem.le_add eA _)⟩
    ·rw[if_neg (by rw[<-hR,hq];simp)]at gD
     rw[gD]
     exact⟨rfl,HasM.le hw.has hM⟩
  ·have wH:s.length<=i:=by have:=of_decide_eq_false cR;simpa[RowKit.intOf,slN]using this
   have cQ:s[i]?=none:=List.getElem?_eq_none_iff.2 wH
   rw[cQ]at gD
   rw[gD]
   exact λM hM _=>⟨rfl,HasM.le hw.has hM⟩
 ·
  have hk:n.t.k=6:=by simpa[RowKit.intOf]using h6
  obtain⟨x,cJ,jH⟩:=oneSub (.inr hk)
  have hx:n.subs[0]?=some x:=by rw[cJ];rfl
  have gD:n.t.lists s d i=[x.t.ends s 0 i]:=by unfold T.lists;rw[if_neg (by omega),if_neg (by omega),if_pos hk,jH,Za3];simp[hd0]
  obtain⟨b0,o,ha,hp⟩:=Zly jU hx
  rw[gD]
  refine⟨_,hc.c2,_,hc.c0,Zaa rfl (Zaa rfl ⟨_,g10B,Zaa rfl ⟨b0,o,ha,⟨by omega,by simp[slN,cJ]⟩,_,hp,_,hc.c1,Zqc (ihs x (by rw[cJ];simp) i hi m hw) ⟨es,eE⟩ Zbd ?_⟩⟩)⟩
  intro a nn c m2 bL hR
  exact⟨⟨by trivial,0,rfl,by simp,ZiG rfl hR⟩,rfl,by obtain⟨_,_,_,_,h⟩:=hR;exact h⟩
 ·
  have hk:n.t.k=4:=by simpa[RowKit.intOf]using h4
  have gD:n.t.lists s d i=n.subs.map λx=>x.t.ends s 0 i:=by
   unfold T.lists
   rw[if_neg (by omega),if_neg (by omega),if_neg (by omega),if_pos hk,<-(ZdC.1 c7).2.1.2,List.map_map]
   refine List.map_congr_left λx _=>?_
   simp[Za3]
  rw[gD,List.length_map]
  refine⟨_,kB.c0,Zaa rfl (Zaa rfl ⟨_,g10,Zaa rfl ⟨λxs css tvs m' q=>∃j:Nat,j<=n.subs.length/\xs=[.int .i64 (j:Nat),.int .i64 (j:Nat)]/\(but m kb).le m'/\HasM m' kb Z root s/\q=n.subs.length - j,⟨_,0,by omega,rfl,Zik _ _,hw.has,rfl⟩,?_⟩⟩)⟩
  rintro y ag m1 ak _ ⟨j,hj,cJ,lM,qm,rfl⟩
  simp only[List.cons.injEq,Value.int.injEq,true_and,and_true]at cJ
  obtain⟨rfl,rfl⟩:=cJ
  have eM:=hw.next lM qm
  have n9:=hc.mono lM
  obtain⟨es1,iZ,_⟩:=qm
  refine Zab (λbF=>?_) (λcR=>?_)
  ·have bI:j < n.subs.length:=by have:=of_decide_eq_true bF;simp[slN]at this;omega
   obtain⟨x,hx⟩:∃x,n.subs[j]?=some x:=⟨_,List.getElem?_eq_getElem bI⟩
   obtain⟨b0,o,ha,hp⟩:=Zly (NRep.mono lM _ jU) hx
   simp only[Int.toNat_natCast,Nat.mul_one,wr1 (show j<=1000000000000000 by omega)]
   refine Zaa rfl ⟨b0,o,ha,⟨by omega,by simp[slN];omega⟩,_,hp,_,n9.c2,_,n9.c1,Zqc (ihs x (List.mem_of_getElem? hx) i hi m1 eM) ⟨es1,iZ⟩ Zbd ?_⟩
   intro a nn c m2 bL hR
   refine⟨⟨by trivial,j,rfl,bI,ZiG (by rw[List.getElem?_map,hx];rfl) hR⟩,_,?_,j+1,by omega,rfl,mLt (Zfh lM) bL,by obtain⟨_,_,_,_,h⟩:=hR;exact h,rfl⟩
   omega
  ·have:j=n.subs.length:=by have:=of_decide_eq_false cR;simp[slN]at this;omega
   subst this
   exact⟨rfl,es1,iZ,by assumption⟩
 ·
  have hk:n.t.k=3:=by simpa[RowKit.intOf]using h3
  have hd':=lR hk
  have gD:n.t.lists s d i=(match n.t.subs[d]? with
   | none=>[[i]]
   | some x=>(x.e0 s i).map λj=>n.t.ends s (d+1) j):=by unfold T.lists;rw[if_neg (by omega),if_neg (by omega),if_neg (by omega),if_neg (by omega),if_pos hk];cases n.t.subs[d]? <;> rfl
  refine⟨_,kB.c3,_,kB.c0,Zaa rfl (Zaa rfl ⟨_,g10,Zaa rfl (Zaa rfl (Zab (λhe=>?_) (λcT=>?_)))⟩)⟩
  ·have he':d=n.subs.length:=by simp[RowKit.intOf,slN]at he;omega
   rw[List.getElem?_eq_none_iff.2 (by omega)]at gD
   rw[gD]
   exact⟨_,kB.c1,Zaa rfl λb hb=>⟨⟨by trivial,0,rfl,by simp,Zlz rfl ⟨es,eE⟩⟩,rfl,HasM.le hw.has (Mem.le_add hb _)⟩⟩
  ·have bF:d < n.subs.length:=by simp[RowKit.intOf,slN]at cT;omega
   obtain⟨x,hx⟩:∃x,n.subs[d]?=some x:=⟨_,List.getElem?_eq_getElem bF⟩
   have gZ:=List.mem_of_getElem? hx
   rw[Zz6 c7 hx]at gD
   simp only at gD
   rw[<-Za3]at gD
   have eL:x.t.right=true:=hw.fin.good x (ZeS hn gZ)
   obtain⟨X,hX⟩:∃X,X=x.t.ends s 0 i:=⟨_,rfl⟩
   have se:X.length<=513:=by rw[hX];exact ZbV eL hw.fin.len hi
   rw[<-hX]at gD
   rw[gD,List.length_map]
   obtain⟨b0,o,ha,hp⟩:=Zly jU hx
   refine⟨_,hc.c2,_,hc.c0,Zaa rfl (Zaa rfl ⟨_,g10B,_,hc.c3,Zaa rfl ⟨b0,o,ha,⟨by simp[RowKit.intOf],by simp[RowKit.intOf,slN];omega⟩,_,by simp only[RowKit.intOf,Int.toNat_natCast,Nat.mul_one];exact hp,_,hc.c1,Zqc (ihs x gZ i hi m hw) ⟨es,eE⟩ Zbd ?_⟩⟩)⟩
   rintro a nn c m2 bL ⟨a',c',hv,bG,dI⟩
   rw[<-hX]at hv bG
   obtain⟨rfl,rfl,rfl⟩:a=a'/\nn=X.length/\c=c':=by simpa using hv
   have dS:=hw.next bL dI
   have tA:=hc.mono (Zfh bL)
   refine⟨λxs css tvs m' q=>∃j:Nat,j<=X.length/\xs=[.int .i64 (j:Nat),.int .i64 (j:Nat)]/\(but m2 kb).le m'/\HasM m' kb Z root s/\q=X.length - j,⟨_,0,by omega,rfl,Zik _ _,dI,rfl⟩,?_⟩
   rintro y ak m3 al _ ⟨j,hj,cJ,dH,fU,rfl⟩
   simp only[List.cons.injEq,Value.int.injEq,true_and,and_true]at cJ
   obtain⟨rfl,rfl⟩:=cJ
   have oC:=dS.next dH fU
   have nF:=tA.mono dH
   obtain⟨es3,dZ,_⟩:=fU
   refine Zab (λmX=>?_) (λcR=>?_)
   ·have bI:j < X.length:=by have:=of_decide_eq_true mX;omega
    obtain⟨z,hz⟩:∃z,X[j]?=some z:=⟨_,List.getElem?_eq_getElem bI⟩
    have gG:=Zhx s x.t 0 i hi z (hX ▸ List.mem_of_getElem? hz)
    rcases((bG.mono (Zo4 dS.z.1)).mono dH)with h|⟨b,o2,h1,h2⟩
    ·have:X=[]:=by simpa[nsL]using h
     rw[this]at bI;simp at bI
    simp only[Int.toNat_natCast,Nat.mul_one,wr1 (show j<=1000000000000000 by omega)]
    refine⟨b,o2,h1,⟨by omega,by omega⟩,.int .i64 (z:Nat),h2 j _ (by rw[nsL,List.getElem?_map,hz];rfl),_,nF.c2,_,nF.c0,_,nF.c3,Zaa rfl ?_⟩
    simp only[RowKit.intOf,wr1 hd]
    refine Zqc (ih3 hk bF z gG.2 m3 oC) ⟨es3,dZ⟩ Zbd ?_
    intro a2 n2 c2' m4 cA hR
    refine⟨⟨by trivial,j,rfl,bI,ZiG (by rw[List.getElem?_map,hz];rfl) hR⟩,_,?_,j+1,by omega,rfl,mLt (Zfh dH) cA,by obtain⟨_,_,_,_,h⟩:=hR;exact h,rfl⟩
    omega
   ·have:j=X.length:=by have:=of_decide_eq_false cR;omega
    subst this
    exact⟨rfl,es3,dZ,by assumption⟩
 ·
  have hk:n.t.k=5:=by simpa[RowKit.intOf]using h5
  obtain⟨x,cJ,jH⟩:=oneSub (.inl hk)
  obtain⟨X,hX⟩:∃X,X=Zch (hd0 s n.t.subs) n.t.mn n.t.mx d i:=⟨_,rfl⟩
  have gD:n.t.lists s d i=(X.map λj=>n.t.ends s (Zbb n.t.mn n.t.mx d) j)++(if(d:Int) ≥ n.t.mn then[[i]]else[]):=by
   unfold T.lists
   rw[if_neg (by omega),if_neg (by omega),if_neg (by omega),if_neg (by omega),if_neg (by omega),if_pos hk,<-hX]
  have uK:∀z∈X,Zii n.t.mx d=true/\z<=s.length:=λz hz=>by
   rw[hX]at hz
   obtain⟨q1,q2,_⟩:=Za8 hz
   exact⟨q1,(Za4 s n.t.subs i hi z q2).2⟩
  have se:X.length<=513:=by
   rw[hX]
   unfold Zch
   split
   ·have h1:=List.length_filter_le (λj=>decide (i < j)||decide ((d:Int) < n.t.mn)) (hd0 s n.t.subs i)
    have h2:(hd0 s n.t.subs i).length<=513:=by
     rw[jH]
     simp only[hd0]
     rw[<-Za3]
     exact ZbV (hw.fin.good x (ZeS hn (by rw[cJ];simp))) hw.fin.len hi
    omega
   ·simp
  refine⟨_,kB.c0,_,kB.c3,_,trivial,Zn2 n d m c7 lI hk hd,λv m' css h=>by unfold Ret at h;rw[h];rfl,?_⟩
  rintro n1 b1 m1 bH p8
  simp only[Ret,Value.tuple.injEq,Array.mk.injEq,List.cons.injEq,Value.int.injEq,Value.bool.injEq,true_and,and_true]at p8
  obtain⟨rfl,rfl⟩:=p8
  have eM:=hw.le bH
  have n9:=hc.mono (Zo2 bH)
  have o7:=n9.mono (Zik _ _)
  obtain⟨es1,iZ,_⟩:=eM.has
  have dG:=ZpN fb kb Z root sa s sc n hn hk d i hd hi (λx hx=>ihs x hx i hi) m1 eM
  rw[<-hX]at dG
  refine⟨_,o7.c2,_,o7.c0,_,o7.c3,_,o7.c1,Zqc dG ⟨es1,iZ⟩ Zbd ?_⟩
  rintro a nn c m2 bL ⟨a',c',hv,bG,dI⟩
  obtain⟨rfl,rfl,rfl⟩:a=a'/\nn=X.length/\c=c':=by simpa using hv
  have dS:=eM.next bL dI
  have tA:=n9.mono (Zfh bL)
  rw[gD,List.length_append,List.length_map]
  refine⟨λxs css tvs m' q=>∃j:Nat,j<=X.length/\xs=[.int .i64 (j:Nat),.int .i64 (j:Nat)]/\(but m2 kb).le m'/\HasM m' kb Z root s/\q=X.length - j,⟨_,0,by omega,rfl,Zik _ _,dI,rfl⟩,?_⟩
  rintro y al m3 ap _ ⟨j,hj,nD,dH,fU,rfl⟩
  simp only[List.cons.injEq,Value.int.injEq,true_and,and_true]at nD
  obtain⟨rfl,rfl⟩:=nD
  have oC:=dS.next dH fU
  have nF:=tA.mono dH
  obtain⟨es3,dZ,lD⟩:=fU
  refine Zab (λmX=>?_) (λcR=>?_)
  ·have bI:j < X.length:=by have:=of_decide_eq_true mX;omega
   obtain⟨z,hz⟩:∃z,X[j]?=some z:=⟨_,List.getElem?_eq_getElem bI⟩
   have yj:=List.mem_of_getElem? hz
   obtain⟨sL,rZ⟩:=uK z yj
   rcases((bG.mono (Zo4 dS.z.1)).mono dH)with h|⟨b,o2,h1,h2⟩
   ·have:X=[]:=by simpa[nsL]using h
    rw[this]at bI;simp at bI
   simp only[Int.toNat_natCast,Nat.mul_one,wr1 (show j<=1000000000000000 by omega)]
   refine⟨b,o2,h1,⟨by omega,by omega⟩,.int .i64 (z:Nat),h2 j _ (by rw[nsL,List.getElem?_map,hz];rfl),ZjJ sL ⟨_,nF.c2,_,nF.c0,Zqc (ih5 hk z (hX ▸ yj) m3 oC) ⟨es3,dZ⟩ Zbd ?_⟩⟩
   intro a2 n2 c2' m4 cA hR
   refine⟨⟨by trivial,j,rfl,by omega,ZiG (by rw[List.getElem?_append_left (by simpa using bI),List.getElem?_map,hz];rfl) hR⟩,_,?_,j+1,by omega,rfl,mLt (Zfh dH) cA,by obtain⟨_,_,_,_,h⟩:=hR;exact h,rfl⟩
   omega
  ·have:j=X.length:=by have:=of_decide_eq_false cR;omega
   subst this
   obtain⟨_,_,g5',_⟩:=ZiF (ZbF root oC.fm.rep n hn)
   refine⟨_,nF.c3,_,nF.c0,Zaa rfl (Zaa rfl ⟨_,g5',Zaa rfl (Zab (λhq=>⟨_,nF.c1,Zaa rfl λb2 eA=>⟨⟨by trivial,X.length,rfl,?_,Zlz ?_ ⟨es3,dZ⟩⟩,?_,HasM.le ⟨es3,dZ,lD⟩ (Mem.le_add eA _)⟩⟩) (λhq=>⟨?_,es3,dZ,lD⟩))⟩)⟩
   ·have hq':(d:Int) ≥ n.t.mn:=of_decide_eq_true hq
    rw[if_pos hq'];simp
   ·have hq':(d:Int) ≥ n.t.mn:=of_decide_eq_true hq
    rw[if_pos hq',List.getElem?_append_right (by simp)];simp
   ·have hq':(d:Int) ≥ n.t.mn:=of_decide_eq_true hq
    rw[if_pos hq'];simp
   ·have hq':¬(d:Int) ≥ n.t.mn:=of_decide_eq_false hq
    rw[if_neg hq'];simp
 ·exfalso
  simp[RowKit.intOf]at h1 h2 h3 h4 h5 h6
  rcases ZfK hg with h|h|h|h|h|h <;> omega
theorem Zyu(a b c a' b' c':Nat):EqIs Tryz.prog 108 (plK a b c) (plK a' b' c') (decide (a=a'/\b=b'/\c=c')):=by
 have h:=Zwo a b c a' b' c'
 have e:((a:Int) == a'&&(b:Int) == b'&&(c:Int) == c')=decide (a=a'/\b=b'/\c=c'):=by
  rw[Bool.eq_iff_iff]
  simp only[Bool.and_eq_true,beq_iff_eq,decide_eq_true_eq]
  omega
 rw[e]at h;exact h
theorem Zwq(a b c:Nat):Instr.sameBits 10000 (plK a b c) (plK a b c)=true:=by
 rw[show(10000:Nat)=9998+1+1 from rfl]
 generalize (9998:Nat)=n
 simp[Instr.sameBits,plK]
theorem ZpO{B:Mem}{root:Nd}{s:List Nat}(ids:∀x∈root.all,∀y∈root.all,x.id=y.id->x=y){n:Nd}(hn:n∈root.all)(d i:Nat)(z:Value):∀{es:List (Value×Value)},Memo B root s es->
  ∃r,MapFind Tryz.prog 108 (plK n.id d i) es r/\∀v,r=some v->∃a c,v=.slice a (n.t.ends s d i).length c/\rowRd B a (nsL (n.t.ends s d i))
 | [],_=>⟨none,rfl,λv h=>by cases h⟩
 | e::es,hm=>by
  obtain⟨n',d',i',a,c,h1,rfl,h3⟩:=hm e (by simp)
  have he:=Zyu n.id d i n'.id d' i'
  by_cases hq:n.id=n'.id/\d=d'/\i=i'
  ·rw[decide_eq_true hq]at he
   obtain⟨q1,rfl,rfl⟩:=hq
   obtain rfl:=ids n hn n' h1 q1
   exact⟨_,.inl ⟨he,rfl⟩,λv h=>by cases h;exact⟨a,c,rfl,h3⟩⟩
  ·rw[decide_eq_false hq]at he
   obtain⟨r,h4,h5⟩:=ZpO ids hn d i z (es:=es) (λe he=>hm e (by simp[he]))
   exact⟨r,.inr ⟨he,h4⟩,h5⟩
theorem Zsz{B:Mem}{root:Nd}{s:List Nat}{n:Nd}(hn:n∈root.all)(d i:Nat){a:Option Addr}{c:Nat}(bG:rowRd B a (nsL (n.t.ends s d i))):∀{es:List (Value×Value)},Memo B root s es->
  ∃es',ZkC Tryz.prog 108 (plK n.id d i) (.slice a (n.t.ends s d i).length c) es es'/\Memo B root s es'
 | [],_=>⟨_,rfl,λe he=>by
   obtain rfl:e=_:=by simpa using he
   exact⟨n,d,i,a,c,hn,rfl,bG⟩⟩
 | e::es,hm=>by
  obtain⟨n',d',i',a',c',h1,rfl,h3⟩:=hm e (by simp)
  have he:=Zyu n.id d i n'.id d' i'
  by_cases hq:n.id=n'.id/\d=d'/\i=i'
  ·rw[decide_eq_true hq]at he
   obtain⟨q1,rfl,rfl⟩:=hq
   refine⟨_,.inl ⟨he,by rw[<-q1];exact Zwq _ _ _,rfl⟩,λe he=>?_⟩
   rcases List.mem_cons.1 he with rfl|he
   ·exact⟨n,d,i,a,c,hn,rfl,bG⟩
   ·exact hm e (by simp[he])
  ·rw[decide_eq_false hq]at he
   obtain⟨es',h4,h5⟩:=Zsz hn d i bG (c:=c) (es:=es) (λe he=>hm e (by simp[he]))
   refine⟨_,.inr ⟨he,es',h4,rfl⟩,λe he=>?_⟩
   rcases List.mem_cons.1 he with rfl|he
   ·exact hm _ (by simp)
   ·exact h5 e he
theorem Zt3{s:List Nat}{t:T}{d i:Nat}(h:t.right=true)(bV:∀x∈t.subs,x.right=true)(hs:s.length<=512)(hi:i<=s.length):∀l∈t.lists s d i,l.length<=1000000:=by
 have e0:∀x:T,x.right=true->(x.e0 s i).length<=1000000:=λx hx=>by
  rw[<-Za3]
  have:=ZbV (d:=0) hx hs hi;omega
 have one:∀{l:List Nat} {x:Nat},l∈[[x]]->l.length<=1000000:=λ{l x} hl=>by
  obtain rfl:l=[x]:=by simpa using hl
  simp
 intro l hl
 unfold T.lists at hl
 split at hl
 ·exact one hl
 ·split at hl
  ·split at hl
   ·split at hl
    ·exact one hl
    ·simp at hl
   ·simp at hl
  ·split at hl
   ·obtain rfl:l=_:=by simpa using hl
    cases fN:t.subs with
    | nil=>simp[hd0]
    | cons x r=>simp only[hd0];exact e0 x (bV x (by rw[fN];simp))
   ·split at hl
    ·obtain⟨x,hx,rfl⟩:=List.mem_map.1 hl
     exact e0 x (bV x hx)
    ·split at hl
     ·split at hl
      ·exact one hl
      ·rename_i x hx
       obtain⟨j,hj,rfl⟩:=List.mem_map.1 hl
       have:=ZbV (d:=d+1) h hs (ZaO s x i hi j hj).2;omega
     ·split at hl
      ·rcases List.mem_append.1 hl with hl|hl
       ·obtain⟨j,hj,rfl⟩:=List.mem_map.1 hl
        obtain⟨_,h2,_⟩:=Za8 hj
        have:=ZbV (d:=Zbb t.mn t.mx d) h hs (Za4 s t.subs i hi j h2).2;omega
       ·split at hl
        ·exact one hl
        ·simp at hl
      ·simp at hl
theorem Zt4(fb kb:Nat)(Z:Nat->Prop)(root:Nd)(sa:Option Addr)(s:List Nat)(sc:Nat)(n:Nd)(hn:n∈root.all)(d i:Nat)(hd:d<=1000000000000000)(hi:i<=s.length)(lR:n.t.k=3->d<=n.subs.length)
  (ihs:∀x∈n.subs,∀j,j<=s.length->ZmB fb kb Z root sa s sc x 0 j) (ih3:n.t.k=3->d < n.subs.length->∀j,j<=s.length->ZmB fb kb Z root sa s sc n (d+1) j)
  (ih5:n.t.k=5->∀j∈Zch (hd0 s n.t.subs) n.t.mn n.t.mx d i,ZmB fb kb Z root sa s sc n (Zbb n.t.mn n.t.mx d) j):ZmB fb kb Z root sa s sc n d i:=by
 intro m hw
 have hg:=hw.fin.good n hn
 have c7:=ZbF root hw.fm.rep n hn
 obtain⟨g0,g1,g5,g6,g8,g9,g10⟩:=ZiF c7
 obtain⟨es,eE,cG⟩:=hw.has
 have tB:∀x∈n.t.subs,x.right=true:=λx hx=>by
  rw[<-(ZdC.1 c7).2.1.2]at hx
  obtain⟨y,hy,rfl⟩:=List.mem_map.1 hx
  exact hw.fin.good y (ZeS hn hy)
 obtain⟨r,dA,fQ⟩:=ZpO hw.fin.ids hn d i (.slice none 0 0) cG
 have wI:=Zsy (d:=d) hg hi
 have jA:=ZbV (d:=d) hg hw.fin.len hi
 apply Zfd
 unfold Zdi
 refine⟨_,g8,(n.id:Nat),rfl,λb9=>⟨_,hw.fm.memo,kb,es,_,_,rfl,eE,ZpL _ _ _,⟨r,dA,rfl,rfl⟩,Zab (λho=>?_) (λho=>⟨_,trivial,Zwp fb n.b d i m,?_,?_⟩)⟩⟩
 ·obtain⟨v,rfl⟩:=Option.isSome_iff_exists.1 ho
  obtain⟨a,c,hv,bG⟩:=fQ v rfl
  exact⟨a,c,hv,bG,hw.has⟩
 ·rintro v m' css ⟨c0,c1,c2,c3,h,_⟩;rw[h];rfl
 rintro g fi ca m1 bH ⟨c0,c1,c2,c3,hv,⟨r5,n9,tA,nF⟩,ra,fP,iB,nW⟩
 obtain⟨rfl,rfl,rfl⟩:g=91/\fi=[]/\ca=[.pointer (some ⟨c0,0,none⟩),.pointer (some ⟨c1,0,none⟩),.pointer (some ⟨c2,0,none⟩),.pointer (some ⟨c3,0,none⟩)]:=by
  simpa using hv
 have eM:=hw.le bH
 have iZ:=bH.k _ _ eE
 refine⟨_,trivial,Zyr _ [] [.pointer (some ⟨c0,0,none⟩),.pointer (some ⟨c1,0,none⟩),.pointer (some ⟨c2,0,none⟩),.pointer (some ⟨c3,0,none⟩)] m1,?_,?_⟩
 ·rintro v m' css ⟨c,h,_⟩;rw[h];rfl
 rintro g fi ca m2 bL ⟨c,hv,uz,qE⟩
 obtain⟨rfl,rfl,rfl⟩:g=90/\fi=[]/\ca=[.pointer (some ⟨c,0,none⟩)]:=by
  simpa using hv
 have dS:=eM.le bL
 have rx:=bL.k _ _ iZ
 have ne:∀{x:Nat},m.k x=none->x≠kb:=λh e=>by subst e;rw[eE]at h;cases h
 have dB:Cap (but m1 kb) fb n d i c0 c1 c2 c3:=by
  have g:∀{x:Nat} {v:Value},m.k x=none->m1.reads x 0 [v]->but m1 kb x 0=some v:=λh hr=>by
   rw[Zm9 (ne h)];exact hr 0 _ rfl
  exact⟨g ra r5,g fP n9,g iB tA,g nW nF⟩
 have ry:∀m3:Mem,m2.le m3->IXY Tryz.prog 91 [] [.pointer (some ⟨c0,0,none⟩),.pointer (some ⟨c1,0,none⟩),.pointer (some ⟨c2,0,none⟩),.pointer (some ⟨c3,0,none⟩)] m3 (λb=>b=kb) (n.t.lists s d i).length (ZwP (n.t.lists s d i) kb) (λm'=>HasM m' kb Z root s):=λm3 bX=>
  Zt2 fb kb Z root sa s sc n hn d i hd hi lR ihs ih3 ih5 m3 (dS.le bX) c0 c1 c2 c3 (dB.mono (Zo2 (mLt bL bX)))
 have tC:=Zwn 91 [] [.pointer (some ⟨c0,0,none⟩),.pointer (some ⟨c1,0,none⟩),.pointer (some ⟨c2,0,none⟩),.pointer (some ⟨c3,0,none⟩)] c m2 kb (n.t.lists s d i) (by rw[<-wI];omega) (Zt3 hg tB hw.fin.len hi) (λm'=>HasM m' kb Z root s) (λa b lP h=>h.le lP) ⟨es,rx⟩ uz ry
 have tD:=ZpK 90 [] [.pointer (some ⟨c,0,none⟩)] m2 kb Z dS.z (ddp (n.t.lists s d i).flatten) (by rw[<-wI];omega) (λm'=>HasM m' kb Z root s) (λa b lP h=>h.le lP) ⟨es,rx⟩ tC
 rw[<-wI]at tD
 refine Zqc tD ⟨es,rx⟩ (λv m' css tvs ⟨a,c,h,_⟩=>by rw[h];rfl) ?_
 rintro a nn c' m3 bX ⟨a',c2',hv,bG,dI⟩
 obtain⟨rfl,rfl,rfl⟩:a=a'/\nn=(n.t.ends s d i).length/\c'=c2':=by simpa using hv
 have oC:=dS.next bX dI
 obtain⟨es3,dZ,lD⟩:=dI
 obtain⟨es',iX,tE⟩:=Zsz hn d i bG (c:=c') lD
 refine⟨_,oC.fm.memo,kb,es3,es',rfl,dZ,ZpL _ _ _,iX,Zna,a,c',rfl,bG,es',Mem.updK_same _ _ _,tE⟩
def ZBf(s:List Nat)(n:Nd)(d i:Nat):Nat:=if n.t.k=3 then n.subs.length - d else mR s.length n.t.mn n.t.mx d i
theorem Zwr(fb kb:Nat)(Z:Nat->Prop)(root:Nd)(sa:Option Addr)(s:List Nat)(sc:Nat)(lE:∀x∈root.all,x.t.right=true):∀(N:Nat)(n:Nd),SizeOf.sizeOf n < N->n∈root.all->∀d i,d<=1000000000000000->i<=s.length->(n.t.k=3->d<=n.subs.length)->n.subs.length<=1000000000000000->ZmB fb kb Z root sa s sc n d i:=by
 intro N
 induction N with
 | zero=>intro n h;omega
 | succ N ihN=>
  intro n hN hn d i hd hi lR jA
  have hg:=lE n hn
  have lI:=Zef hg
  have ZzY:∀(K d i:Nat),ZBf s n d i < K->d<=1000000000000000->i<=s.length->(n.t.k=3->d<=n.subs.length)->ZmB fb kb Z root sa s sc n d i:=by
   intro K
   induction K with
   | zero=>intro d i h;omega
   | succ K ihK=>
    intro d i hK hd hi lR
    intro m hw
    have few:∀x∈root.all,x.subs.length<=1000000000000000:=λx hx=>Zt1 (ZbF root hw.fin.rep x hx)
    refine Zt4 fb kb Z root sa s sc n hn d i hd hi lR (λx hx j hj=>ihN x (by have:=ZzV hx;omega) (ZeS hn hx) 0 j (by omega) hj (λ_=>Nat.zero_le _) (few x (ZeS hn hx))) (λh3 bF j hj=>ihK (d+1) j ?_ (by omega) hj (λ_=>bF)) (λh5 j hj=>?_) m hw
    ·unfold ZBf at hK ⊢
     rw[if_pos h3]at hK ⊢
     omega
    ·obtain⟨q1,q2,q3⟩:=Za8 hj
     obtain⟨q4,q5⟩:=Za4 s n.t.subs i hi j q2
     obtain⟨b1,b2,b3⟩:=lI h5
     have:=ZrS (len:=s.length) b1 (b3.imp id λh=>h.2.1) q1 ⟨q4,q5⟩ q3
     refine ihK _ j ?_ ?_ q5 (λh=>by omega)
     ·unfold ZBf at hK ⊢
      rw[if_neg (by omega)]at hK ⊢
      omega
     ·unfold Zbb
      unfold Zii at q1
      simp only[Bool.or_eq_true,beq_iff_eq,decide_eq_true_eq]at q1
      split <;> omega
  exact ZzY _ d i (Nat.lt_succ_self _) hd hi lR
theorem Zjg(fb kb:Nat)(Z:Nat->Prop)(root:Nd)(sa:Option Addr)(s:List Nat)(sc:Nat)(n:Nd)(hn:n∈root.all)(d i:Nat)(hd:d<=1000000000000000)(hi:i<=s.length)(lR:n.t.k=3->d<=n.subs.length):ZmB fb kb Z root sa s sc n d i:=λm hw=>
 Zwr fb kb Z root sa s sc hw.fin.good _ n (Nat.lt_succ_self _) hn d i hd hi lR (Zt1 (ZbF root hw.fin.rep n hn)) m hw
theorem ZzB{P:Program}{g:FuncId}{args:Array Value}{m m0:Mem}{kb:Nat}{R0:RTY}{K:Bool->Mem->Prop}{E:Nat->Prop}(h:CXY P g args m (λb=>b=kb) [] [] R0)(hk:∃es,m.k kb=some es)(hE:E kb)(hf:∀(v:Value)(m':Mem) (css:List (List Value)) (tvs:List Value),R0 v m' css tvs->Shape.fits Shape.bool v=true)
  (k:∀b m',(but m kb).le m'->R0 (.bool b) m' [] []->K b m'):
  ∃(Y:Nat->Prop),∃(R:Value->Mem->List (List Value)->List Value->Prop),CXY P g args m Y [] [] R/\(∀(t:Tok),t∈[]->∀(b:Nat),t.blk=some b->Y b)/\
   (∀(b:Nat),Y b->(∃(t:Tok),t∈[]/\t.blk=some b)\/(Mem.free (but m0 kb) b/\Mem.k (but m0 kb) b=none)/\((∃(o:Nat),∃(v:Value),m b o=some v)\/∃(e:List (Value×Value)),Mem.k m b=some e)/\E b)/\
   (∀(v:Value)(m':Mem) (css:List (List Value)) (tvs:List Value),R v m' css tvs->Shape.fits Shape.bool v=true)/\
   ∀(b:Bool)(m':Mem),Mem.le (Mem.off m Y) m'->(NewM m m' λ(b:Nat)=>Y b\/Mem.free m b)->R (.bool b) m' [] []->K b m':=
 ⟨λb=>b=kb,R0,h,by simp,λb hb=>.inr ⟨by subst hb;exact⟨Zk7,Zna⟩,.inr (by subst hb;exact hk),by subst hb;exact hE⟩,hf,λb m' h1 _ h2=>k b m' h1 h2⟩
theorem ZzC{P:Program}{g:FuncId}{args:Array Value}{m m0:Mem}{kb:Nat}{R0:RTY}{K:Int->Mem->Prop}{E:Nat->Prop}(h:CXY P g args m (λb=>b=kb) [] [] R0)(hk:∃es,m.k kb=some es)(hE:E kb)(hf:∀(v:Value)(m':Mem) (css:List (List Value)) (tvs:List Value),R0 v m' css tvs->Shape.fits (Shape.int .i64) v=true)
  (k:∀b m',(but m kb).le m'->R0 (.int .i64 b) m' [] []->K b m'):
  ∃(Y:Nat->Prop),∃(R:Value->Mem->List (List Value)->List Value->Prop),CXY P g args m Y [] [] R/\(∀(t:Tok),t∈[]->∀(b:Nat),t.blk=some b->Y b)/\
   (∀(b:Nat),Y b->(∃(t:Tok),t∈[]/\t.blk=some b)\/(Mem.free (but m0 kb) b/\Mem.k (but m0 kb) b=none)/\((∃(o:Nat),∃(v:Value),m b o=some v)\/∃(e:List (Value×Value)),Mem.k m b=some e)/\E b)/\
   (∀(v:Value)(m':Mem) (css:List (List Value)) (tvs:List Value),R v m' css tvs->Shape.fits (Shape.int .i64) v=true)/\
   ∀(b:Int)(m':Mem),Mem.le (Mem.off m Y) m'->(NewM m m' λ(b:Nat)=>Y b\/Mem.free m b)->R (.int .i64 b) m' [] []->K b m':=
 ⟨λb=>b=kb,R0,h,by simp,λb hb=>.inr ⟨by subst hb;exact⟨Zk7,Zna⟩,.inr (by subst hb;exact hk),by subst hb;exact hE⟩,hf,λb m' h1 _ h2=>k b m' h1 h2⟩
theorem Zrc(fb kb:Nat)(Z:Nat->Prop)(root:Nd)(sa:Option Addr)(s:List Nat)(sc:Nat)(n:Nd)(hn:n∈root.all)(d j to:Nat)(hd:d<=1000000000000000)(hj:j<=s.length)(lR:n.t.k=3->d<=n.subs.length)(m:Mem)(hw:Wk m fb kb Z root sa s sc)(c0 c1 c2 c3:Nat)
  (g0:but m kb c0 0=some (.pointer (some ⟨fb,0,none⟩))) (g1:but m kb c1 0=some (.pointer (some ⟨n.b,0,none⟩))) (g2:but m kb c2 0=some (.int .i64 (d:Nat))) (g3:but m kb c3 0=some (.int .i64 (to:Nat))):
  CXY Tryz.prog 94 #[.int .i64 (j:Nat),.pointer (some ⟨c0,0,none⟩),.pointer (some ⟨c1,0,none⟩),.pointer (some ⟨c2,0,none⟩),.pointer (some ⟨c3,0,none⟩)] m (λb=>b=kb) [] [] (λv m' _ _=>v=.bool (decide (to∈n.t.ends s d j))/\HasM m' kb Z root s):=by
 obtain⟨es,eE,_⟩:=hw.has
 apply ZdG
 unfold Zcr
 refine⟨_,g0,_,g1,_,g2,_,g3,Zqc (Zjg fb kb Z root sa s sc n hn d j hd hj lR m hw) ⟨es,eE⟩ Zbd ?_⟩
 rintro a nn c m1 bH ⟨a',c',hv,bG,dI⟩
 obtain⟨rfl,rfl,rfl⟩:a=a'/\nn=(n.t.ends s d j).length/\c=c':=by simpa using hv
 refine⟨_,trivial,Zee _ a c to m1 (bG.mono (Mem.off_le _ _)) ?_,λv m' css h=>by unfold Ret at h;rw[h];rfl,?_⟩
 ·have:=ZbV (d:=d) (hw.fin.good n hn) hw.fin.len hj;omega
 rintro b m2 bL hR
 exact⟨hR,dI.le bL⟩
theorem Zyv{α:Type}{p:α->Bool}{l:List α}{j:Nat}{x:α}(h:l[j]?=some x)(gY:∀y∈l.take j,p y=false)(hx:p x=true):l.find? p=some x:=by
 have e:l=l.take (j+1)++l.drop (j+1):=(List.take_append_drop _ _).symm
 rw[ZbZ h]at e
 rw[e,List.append_assoc,List.find?_append,List.find?_eq_none.2 (λy hy=>by simp[gY y hy])]
 simp[hx]
theorem ZlA(g:Nat)(fi ca:List Value)(X:List Nat)(p:Nat->Bool)(a:Option Addr)(c:Nat)(m:Mem)(kb:Nat)(hX:X.length<=1000000)(RI:Mem->Prop)(Am:RI m)(hk:∀m',RI m'->∃es,m'.k kb=some es)(bG:rowRd (but m kb) a (nsL X))
  (ww:∀m',(but m kb).le m'->RI m'->∀x∈X,CXY Tryz.prog g ((fi++[Value.int .i64 (x:Nat)])++ca).toArray m' (λb=>b=kb) [] [] (λv m' _ _=>v=.bool (p x)/\RI m')):
  CXY Tryz.prog 93 #[.slice a X.length c,.func (.func g) fi.toArray ca.toArray] m (λb=>b=kb) [] [] (λv m' _ _=>((∃(i x:Nat),v=.int .i64 (i:Nat)/\X[i]?=some x/\X.find? p=some x)\/(v=.int .i64 (-1)/\X.find? p=none))/\RI m'):=by
 apply Zb4
 unfold Zbl
 refine⟨λxs css tvs m' q=>∃j:Nat,j<=X.length/\xs=[.int .i64 (j:Nat)]/\(but m kb).le m'/\RI m'/\(∀y∈X.take j,p y=false)/\q=X.length - j,⟨_,0,by omega,rfl,Zik _ _,Am,by simp,rfl⟩,?_⟩
 rintro y m3 q _ ⟨j,hj,cJ,cF,hR,gY,rfl⟩
 obtain rfl:y=j:=by simpa using cJ
 refine Zab (λbF=>?_) (λcR=>?_)
 ·have bI:j < X.length:=by have:=of_decide_eq_true bF;omega
  obtain⟨x,hx⟩:∃x,X[j]?=some x:=⟨_,List.getElem?_eq_getElem bI⟩
  have gZ:=List.mem_of_getElem? hx
  rcases bG.mono cF with h|⟨b,o,h1,h2⟩
  ·have:X=[]:=by simpa[nsL]using h
   rw[this]at bI;simp at bI
  simp only[Int.toNat_natCast,Nat.mul_one,wr1 (show j<=1000000000000000 by omega)]
  refine⟨b,o,h1,⟨by omega,by omega⟩,.int .i64 (x:Nat),h2 j _ (by rw[nsL,List.getElem?_map,hx];rfl),ZzB (ww m3 cF hR x gZ) (hk m3 hR) trivial (λv m' css tvs h=>by rw[h.1];rfl) ?_⟩
  rintro b2 m4 cA ⟨hb,ym⟩
  obtain rfl:b2=p x:=by simpa using hb
  refine Zab (λhp=>⟨.inl ⟨j,x,rfl,hx,Zyv hx gY hp⟩,ym⟩) (λhp=>⟨_,?_,j+1,by omega,rfl,mLt (Zfh cF) cA,ym,?_,rfl⟩)
  ·omega
  ·rw[ZbZ hx]
   intro y hy
   rcases List.mem_append.1 hy with hy|hy
   ·exact gY y hy
   ·obtain rfl:y=x:=by simpa using hy
    exact hp
 ·have:j=X.length:=by have:=of_decide_eq_false cR;omega
  subst this
  rw[List.take_length]at gY
  exact⟨.inr ⟨rfl,List.find?_eq_none.2 λy hy=>by simp[gY y hy]⟩,hR⟩
def ZzD(s:List Nat)(t:T)(d to:Nat)(X:List Nat):Option Nat:=X.find? λj=>decide (to∈t.ends s d j)
def ZAe:Option Nat->Int
 | some x=>(x:Int)
 | none=>-1
theorem ZpP(fb kb:Nat)(Z:Nat->Prop)(root:Nd)(sa:Option Addr)(s:List Nat)(sc:Nat)(n:Nd)(hn:n∈root.all)(d to:Nat)(hd:d<=1000000000000000)(lR:n.t.k=3->d<=n.subs.length)(X:List Nat)(hX:∀j∈X,j<=s.length)(se:X.length<=1000000)(a:Option Addr)(c:Nat)(m:Mem)(hw:Wk m fb kb Z root sa s sc)(bG:rowRd (m.off Z) a (nsL X)):
  CXY Tryz.prog 61 #[.pointer (some ⟨fb,0,none⟩),.slice a X.length c,.pointer (some ⟨n.b,0,none⟩),.int .i64 (d:Nat),.int .i64 (to:Nat)] m (λb=>b=kb) [] [] (λv m' _ _=>v=.int .i64 (ZAe (ZzD s n.t d to X))/\HasM m' kb Z root s):=by
 obtain⟨es,eE,cG⟩:=hw.has
 apply ZeH
 unfold Zc0
 intro b0 m1 bH An zO _ ra b1 m2 bL dW kH _ fP b2 m3 bX eA nB _ iB b3 m4 cA kC sg _ nW
 have l14:=mLt bL (mLt bX cA)
 have l24:=mLt bX cA
 have l04:=mLt bH l14
 have n0:b0≠kb:=λe=>by subst e;rw[eE]at ra;cases ra
 have n1:b1≠kb:=λe=>by subst e;rw[bH.k _ _ eE]at fP;cases fP
 have n2:b2≠kb:=λe=>by subst e;rw[(mLt bH bL).k _ _ eE]at iB;cases iB
 have n3:b3≠kb:=λe=>by subst e;rw[(mLt bH (mLt bL bX)).k _ _ eE]at nW;cases nW
 have uF:=hw.le l04
 have cell:∀{b:Nat} {v:Value},b≠kb->m4.reads b 0 [v]->but m4 kb b 0=some v:=λh1 h2=>by rw[Zm9 h1];exact h2 0 _ rfl
 have g0:=cell n0 (An.mono l14)
 have g1:=cell n1 (dW.mono l24)
 have g2:=cell n2 (eA.mono cA)
 have g3:=cell n3 kC
 have cO:rowRd (but m4 kb) a (nsL X):=(bG.mono (Zgd l04)).mono (Zo4 hw.z.1)
 refine ZzC (ZlA 94 [] [.pointer (some ⟨b0,0,none⟩),.pointer (some ⟨b1,0,none⟩),.pointer (some ⟨b2,0,none⟩),.pointer (some ⟨b3,0,none⟩)] X (λj=>decide (to∈n.t.ends s d j)) a c m4 kb se (λm'=>HasM m' kb Z root s) uF.has (λm' ⟨es,h,_⟩=>⟨es,h⟩) cO ?_) ⟨es,l04.k _ _ eE⟩ ⟨n3,n2,n1,n0,trivial⟩ ?_ ?_
 ·intro m5 c9 hh x hx
  have si:=Zfh c9
  exact Zrc fb kb Z root sa s sc n hn d x to hd (hX x hx) lR m5 (uF.next c9 hh) b0 b1 b2 b3 (si.c _ _ _ g0) (si.c _ _ _ g1) (si.c _ _ _ g2) (si.c _ _ _ g3)
 ·rintro v m' css tvs ⟨⟨i,x,h,_⟩|⟨h,_⟩,_⟩ <;> (rw[h];rfl)
 rintro z m5 c9 ⟨h,hh⟩
 rcases h with⟨i,x,h,hx,fT⟩|⟨h,fT⟩
 ·obtain rfl:z=i:=by simpa using h
  refine ZiP (by simp) ?_
  have bF:=(List.getElem?_eq_some_iff.1 hx).1
  rcases cO.mono c9 with h|⟨b,o,h1,h2⟩
  ·have:X=[]:=by simpa[nsL]using h
   rw[this]at bF;simp at bF
  refine⟨b,o,h1,⟨by omega,by omega⟩,.int .i64 (x:Nat),by simp only[Int.toNat_natCast,Nat.mul_one];exact h2 i _ (by rw[nsL,List.getElem?_map,hx];rfl),?_,hh⟩
  unfold ZzD;rw[fT];rfl
 ·obtain rfl:z=-1:=by simpa using h
  refine ZjJ (by decide) ⟨?_,hh⟩
  unfold ZzD;rw[fT];rfl
theorem Zqd{P:Program}{g:FuncId}{args:Array Value}{m m0:Mem}{Y Y0:Nat->Prop}{R0:RTY}{sh:Shape}{E:Nat->Prop}{Kf:(Nat->Prop)->RTY->Prop}(h:CXY P g args m Y [] [] R0)(hY:∀b,Y b->Y0 b/\((∃(o:Nat),∃(v:Value),m b o=some v)\/∃(e:List (Value×Value)),Mem.k m b=some e)/\E b)(hf:∀(v:Value)(m':Mem) (css:List (List Value)) (tvs:List Value),R0 v m' css tvs->Shape.fits sh v=true)(k:Kf Y R0):
  ∃(Y:Nat->Prop),∃(R:Value->Mem->List (List Value)->List Value->Prop),CXY P g args m Y [] [] R/\(∀(t:Tok),t∈[]->∀(b:Nat),t.blk=some b->Y b)/\
   (∀(b:Nat),Y b->(∃(t:Tok),t∈[]/\t.blk=some b)\/(Mem.free (m0.off Y0) b/\Mem.k (m0.off Y0) b=none)/\((∃(o:Nat),∃(v:Value),m b o=some v)\/∃(e:List (Value×Value)),Mem.k m b=some e)/\E b)/\
   (∀(v:Value)(m':Mem) (css:List (List Value)) (tvs:List Value),R v m' css tvs->Shape.fits sh v=true)/\Kf Y R:=
 ⟨Y,R0,h,by simp,λb hb=>.inr ⟨⟨Mem.off_free (hY b hb).1,Mem.off_kn (hY b hb).1⟩,(hY b hb).2⟩,hf,k⟩
structure St (fb kb:Nat)(root:Nd)(sa:Option Addr)(s:List Nat)(sc:Nat)(pa:Option Addr)(pc np:Nat)(m:Mem)(P:PL):Prop where
 wk:Wk m fb kb (Zp kb pa) root sa s sc
 pt:PtAt m pa P
 len:P.length=np
 parts:(m.off (Zp kb pa)) fb 2=some (.slice pa np pc)
 nk:∀b,pa=some ⟨b,0,none⟩->b≠kb
theorem St.step{fb kb:Nat}{root:Nd}{sa:Option Addr}{s:List Nat}{sc:Nat}{pa:Option Addr}{pc np:Nat}{m m':Mem}{P:PL}(h:St fb kb root sa s sc pa pc np m P)(hm:(but m kb).le m')(hh:HasM m' kb (Zp kb pa) root s):St fb kb root sa s sc pa pc np m' P:=
 ⟨h.wk.next hm hh,(h.pt.but h.nk).mono hm,h.len,(ZuQ h.wk.z.1 hm).c _ _ _ h.parts,h.nk⟩
theorem St.le{fb kb:Nat}{root:Nd}{sa:Option Addr}{s:List Nat}{sc:Nat}{pa:Option Addr}{pc np:Nat}{m m':Mem}{P:PL}(h:St fb kb root sa s sc pa pc np m P)(hm:m.le m'):St fb kb root sa s sc pa pc np m' P:=
 h.step (mLt (Zik _ _) hm) (h.wk.has.le hm)
theorem Zws{m':Mem}{kb:Nat}{pa:Option Addr}{P':PL}(hp:PtAt m' pa P'):ZOk m' kb (Zp kb pa):=⟨.inl rfl,λb hb=>by
 rcases hb with hb|hb
 ·exact .inl hb
 rcases hp with⟨_,h⟩|⟨b',h1,h2,h3⟩
 ·rw[h]at hb;cases hb
 ·rw[h1]at hb;cases hb
  cases P' with
  | nil=>exact absurd rfl h3
  | cons p l=>exact .inr ⟨_,(h2 0 p rfl).1⟩⟩
theorem St.walk{fb kb:Nat}{root:Nd}{sa:Option Addr}{s:List Nat}{sc:Nat}{pa:Option Addr}{pc np:Nat}{m m':Mem}{P P':PL}(h:St fb kb root sa s sc pa pc np m P)(hm:(m.off (Zp kb pa)).le m')(hh:HasM m' kb (Zp kb pa) root s)(hp:PtAt m' pa P')(hl:P'.length=P.length):St fb kb root sa s sc pa pc np m' P':=
 ⟨⟨h.wk.fin.mono (Zo5 hm),hh,Zws hp⟩,hp,hl.trans h.len,(Zo5 hm).c _ _ _ h.parts,h.nk⟩
theorem St.upd{fb kb:Nat}{root:Nd}{sa:Option Addr}{s:List Nat}{sc:Nat}{pa:Option Addr}{pc np:Nat}{m:Mem}{P:PL}(h:St fb kb root sa s sc pa pc np m P){b g:Nat}{x y:Int}(hb:pa=some ⟨b,0,none⟩)(hg:g < P.length):St fb kb root sa s sc pa pc np (m.upd b (0+g*2) [.int .i64 x,.int .i64 y]) (P.set g (x,y)):=by
 have hp:=h.pt.upd hb hg (x:=x) (y:=y)
 have jV:(m.off (Zp kb pa)).le ((m.upd b (0+g*2) [.int .i64 x,.int .i64 y]).off (Zp kb pa)):=ZxJ (.inr hb)
 obtain⟨es,h1,h2⟩:=h.wk.has
 exact⟨⟨h.wk.fin.mono jV,⟨es,h1,h2.mono jV⟩,Zws hp⟩,hp,by simp[h.len],jV.c _ _ _ h.parts,h.nk⟩
theorem St.zin{fb kb:Nat}{root:Nd}{sa:Option Addr}{s:List Nat}{sc:Nat}{pa:Option Addr}{pc np:Nat}{m:Mem}{P:PL}(h:St fb kb root sa s sc pa pc np m P):∀b,Zp kb pa b->Zp kb pa b/\((∃(o:Nat),∃(v:Value),m b o=some v)\/∃(e:List (Value×Value)),Mem.k m b=some e)/\True:=λb hb=>by
 refine⟨hb,?_,trivial⟩
 rcases h.wk.z.2 b hb with rfl|⟨v,hv⟩
 ·obtain⟨es,h1,_⟩:=h.wk.has
  exact .inr ⟨es,h1⟩
 ·exact .inl ⟨0,v,hv⟩
theorem St.kin{fb kb:Nat}{root:Nd}{sa:Option Addr}{s:List Nat}{sc:Nat}{pa:Option Addr}{pc np:Nat}{m:Mem}{P:PL}(h:St fb kb root sa s sc pa pc np m P):∀b,b=kb->Zp kb pa b/\((∃(o:Nat),∃(v:Value),m b o=some v)\/∃(e:List (Value×Value)),Mem.k m b=some e)/\True:=λb hb=>h.zin b (.inl hb)
def Zz8(kb:Nat)(pa:Option Addr)(root:Nd)(s:List Nat)(Q:PL×Nat):RTY:=λv m' _ _=>v=.int .i64 (Q.2:Nat)/\HasM m' kb (Zp kb pa) root s/\PtAt m' pa Q.1
theorem Zeg{kb:Nat}{pa:Option Addr}{root:Nd}{s:List Nat}{Q:PL×Nat}:∀(v:Value)(m':Mem) (css:List (List Value)) (tvs:List Value),Zz8 kb pa root s Q v m' css tvs->Shape.fits (Shape.int .i64) v=true:=λv _ _ _ ⟨h,_⟩=>by rw[h];rfl
def Zy5(fb kb:Nat)(root:Nd)(sa:Option Addr)(s:List Nat)(sc:Nat)(pa:Option Addr)(pc np:Nat)(x:Nd):Prop:=
 ∀g,x.num g->g+x.t.ngr<=np->∀i to,i<=s.length->to∈x.t.e0 s i->∀m P,St fb kb root sa s sc pa pc np m P->
  CXY Tryz.prog 45 #[.pointer (some ⟨fb,0,none⟩),.pointer (some ⟨x.b,0,none⟩),.int .i64 (i:Nat),.int .i64 (to:Nat)] m (Zp kb pa) [] [] (Zz8 kb pa root s (x.t.wk s g i to P))
theorem ZmC{Q:Option Nat}{kb:Nat}{Z:Nat->Prop}{root:Nd}{s:List Nat}:∀(v:Value)(m':Mem) (css:List (List Value)) (tvs:List Value),(v=.int .i64 (ZAe Q)/\HasM m' kb Z root s)->Shape.fits (Shape.int .i64) v=true:=λv _ _ _ ⟨h,_⟩=>by rw[h];rfl
theorem ZAC(fb kb:Nat)(root:Nd)(sa:Option Addr)(s:List Nat)(sc:Nat)(pa:Option Addr)(pc np:Nat)(n:Nd)(hn:n∈root.all)(ih:∀x∈n.subs,Zy5 fb kb root sa s sc pa pc np x):Zy5 fb kb root sa s sc pa pc np n:=by
 intro g o8 oA i to hi jS m P cW
 have hw:=cW.wk
 have hg:=hw.fin.good n hn
 have lI:=Zef hg
 have c7:=ZbF root hw.fm.rep n hn
 obtain⟨g0,g1,g5,g6,g8,g9,g10⟩:=ZiF c7
 have bO:=Zt0 c7
 have jA:=Zt1 c7
 rw[ZxI]at o8
 obtain⟨wJ,eB⟩:=o8
 rw[ZxG]at oA
 have ends0:∀x∈n.subs,∀j,j<=s.length->ZmB fb kb (Zp kb pa) root sa s sc x 0 j:=λx hx j hj=>Zjg fb kb (Zp kb pa) root sa s sc x (ZeS hn hx) 0 j (by omega) hj (λ_=>Nat.zero_le _)
 have oneSub:n.t.k=5\/n.t.k=6->∃x,n.subs=[x]/\n.t.subs=[x.t]:=λh=>by
  obtain⟨x0,hC⟩:∃x,n.t.subs=[x]:=by
   rcases ZfK hg with h'|h'|h'|h'|h'|h' <;> first|omega|exact h'.2.1|exact h'.2
  have hl:=bO
  rw[hC]at hl
  match bV:n.subs,hl with
  | [x],_=>
   have:=Zz6 c7 (j:=0) (x:=x) (by rw[bV];rfl)
   rw[hC]at this
   simp at this
   exact⟨x,rfl,by rw[hC,this]⟩
 obtain⟨Q,hQ⟩:∃Q,Q=n.t.wk s g i to P:=⟨_,rfl⟩
 rw[<-hQ]
 rw[Zy1]at hQ
 apply Zfb
 unfold Zdh
 refine⟨_,g0,Zaa rfl (Zab (λh6=>?_) (λh6=>Zaa rfl (Zab (λh4=>?_) (λh4=>Zaa rfl (Zab (λh3=>?_) (λh3=>Zaa rfl (Zab (λh5=>?_) (λh5=>?_))))))))⟩
 ·
  have hk:n.t.k=6:=by simpa[RowKit.intOf]using h6
  obtain⟨x,cJ,jH⟩:=oneSub (.inr hk)
  have gZ:x∈n.subs:=by rw[cJ];simp
  have lO:=wJ hk
  rw[if_pos hk,jH]at hQ
  rw[if_pos hk,jH]at oA
  rw[if_pos hk,cJ]at eB
  have eB:x.num (g+1):=eB.1
  have jS:to∈x.t.e0 s i:=by
   rw[<-Za3]at jS
   unfold T.ends at jS
   rw[if_neg (by omega),if_neg (by omega)]at jS
   have e:n.t.e0 s i=ddp (hd0 s n.t.subs i):=by
    cases hT:n.t with
    | node k s0 s1 s2 s3 mn mx a c l=>
     rw[hT]at hk
     have hk:k=6:=hk
     subst hk
     simp[T.e0,T.subs]
   rw[e,ZcU,jH]at jS
   simpa[hd0]using jS
  have uL:g < P.length:=by rw[cW.len];omega
  obtain⟨pb,kW,cL⟩:∃b,pa=some ⟨b,0,none⟩/\∀q p,P[q]?=some p->m b (q*2)=some (.int .i64 p.1)/\m b (q*2+1)=some (.int .i64 p.2):=by
   rcases cW.pt with⟨h,_⟩|⟨b,h1,h2,_⟩
   ·rw[h]at uL;simp at uL
   ·exact⟨b,h1,h2⟩
  have Ao:=(Mem.off_le _ _).c _ _ _ cW.parts
  have rz:=cW.upd kW uL (x:=(i:Int)) (y:=(to:Int))
  have qn:=ZbF root rz.wk.fm.rep n hn
  obtain⟨_,_,_,_,_,_,g10'⟩:=ZiF qn
  obtain⟨b0,o,ha,hp⟩:=Zly qn (j:=0) (x:=x) (by rw[cJ];rfl)
  refine⟨_,Ao,_,g9,Zaa rfl (Zaa rfl ⟨pb,0,kW,⟨by simp[RowKit.intOf],?_⟩,?_,Mem.off_free (.inr kW),rfl,?_⟩)⟩
  ·simp only[RowKit.intOf,slN,lO];have:=cW.len;omega
  ·obtain⟨p,fY⟩:∃p,P[g]?=some p:=⟨_,List.getElem?_eq_getElem uL⟩
   refine⟨[.int .i64 p.1,.int .i64 p.2],rfl,?_⟩
   obtain⟨h1,h2⟩:=cL g p fY
   simp only[RowKit.intOf,Int.toNat_natCast,lO,Nat.zero_add]
   intro j v hj
   have bF:j < 2:=(List.getElem?_eq_some_iff.1 hj).1
   have:j=0\/j=1:=by omega
   rcases this with rfl|rfl <;> (cases hj;assumption)
  ·simp only[RowKit.intOf,Int.toNat_natCast,lO]
   refine⟨_,g10',Zaa rfl ⟨b0,o,ha,⟨by omega,by simp[slN,cJ]⟩,_,hp,Zqd (ih x gZ (g+1) eB (by rw[ZdD,ZdD]at oA;omega) i to hi jS _ _ rz) rz.zin Zeg ?_⟩⟩
   rintro z m3 bX _ ⟨_,hh,jB⟩
   refine⟨by rw[hQ];rfl,hh,?_⟩
   rw[hQ];exact jB
 ·
  have hk:n.t.k=4:=by simpa[RowKit.intOf]using h4
  rw[if_neg (by omega),if_pos hk]at hQ
  rw[if_neg (by omega),Nat.zero_add]at oA
  rw[if_neg (by omega),Nat.add_zero]at eB
  refine⟨_,g10,Zaa rfl ⟨λxs css tvs m' q=>∃(j gj:Nat),j<=n.subs.length/\xs=[.int .i64 (j:Nat)]/\St fb kb root sa s sc pa pc np m' P/\Q=(Zju s (n.t.subs.drop j) gj i to P,0)/\ZxH (n.subs.drop j) gj/\gj+ZdD (n.t.subs.drop j)<=np/\q=n.subs.length - j,⟨_,0,g,by omega,rfl,cW,hQ,eB,oA,rfl⟩,?_⟩⟩
  rintro y m3 q _ ⟨j,gj,hj,cJ,dV,fJ,nG,tF,rfl⟩
  obtain rfl:y=j:=by simpa using cJ
  refine Zab (λbF=>?_) (λcR=>?_)
  ·have bI:j < n.subs.length:=by have:=of_decide_eq_true bF;simp only[slN]at this;omega
   obtain⟨x,hx⟩:∃x,n.subs[j]?=some x:=⟨_,List.getElem?_eq_getElem bI⟩
   have gZ:=List.mem_of_getElem? hx
   have eL:x.t.right=true:=hw.fin.good x (ZeS hn gZ)
   have jH:=Zz6 c7 hx
   rw[Zih jH]at fJ tF
   obtain⟨pY,nH⟩:=ZrY nG hx
   rw[ZdD]at tF
   have gQ:=ZbF root dV.wk.fm.rep n hn
   obtain⟨b0,o,ha,hp⟩:=Zly gQ hx
   simp only[Int.toNat_natCast,Nat.mul_one,wr1 (show j<=1000000000000000 by omega)]
   refine Zaa rfl ⟨b0,o,ha,⟨by omega,by simp only[slN];omega⟩,_,hp,Zqd (ends0 x gZ i hi m3 dV.wk) dV.kin Zbd ?_⟩
   rintro a nn c m4 cA _ ⟨a',c',hv,bG,dI⟩
   obtain⟨rfl,rfl,rfl⟩:a=a'/\nn=(x.t.ends s 0 i).length/\c=c':=by simpa using hv
   have eO:=dV.step cA dI
   refine⟨_,trivial,Zee _ a c to m4 (bG.mono (Mem.off_le _ _)) (by have:=ZbV (d:=0) eL hw.fin.len hi;omega),λv m' css h=>by unfold Ret at h;rw[h];rfl,?_⟩
   rintro b m5 c9 hR
   obtain rfl:b=decide (to∈x.t.ends s 0 i):=by simpa[Ret]using hR
   have gS:=eO.le c9
   rw[Za3]
   simp only[Zju]at fJ
   refine Zab (λeP=>?_) (λeP=>⟨_,?_,j+1,gj+x.t.ngr,by omega,rfl,gS,?_,nH,by omega,rfl⟩)
   ·have tG:=of_decide_eq_true eP
    rw[if_pos tG]at fJ
    refine Zqd (ih x gZ gj pY (by omega) i to hi tG m5 P gS) gS.zin Zeg ?_
    rintro z m6 fE _ ⟨_,hh,jB⟩
    refine⟨by rw[fJ];rfl,hh,?_⟩
    rw[fJ];exact jB
   ·omega
   ·rw[if_neg (of_decide_eq_false eP)]at fJ
    exact fJ
  ·have:j=n.subs.length:=by have:=of_decide_eq_false cR;simp only[slN]at this;omega
   subst this
   rw[List.drop_eq_nil_of_le (by omega)]at fJ
   simp only[Zju]at fJ
   refine⟨by rw[fJ];rfl,dV.wk.has,?_⟩
   rw[fJ];exact dV.pt
 ·
  have hk:n.t.k=3:=by simpa[RowKit.intOf]using h3
  rw[if_neg (by omega),if_neg (by omega),if_pos hk]at hQ
  rw[if_neg (by omega),Nat.zero_add]at oA
  rw[if_neg (by omega),Nat.add_zero]at eB
  have hE:∀d j,n.t.ends s d j=Zg1 (e0s s (n.t.subs.drop d)) j:=λd j=>by
   unfold T.ends
   rw[if_pos hk,ZrR,List.map_drop]
  rw[<-Za3,hE]at jS
  refine⟨_,g10,Zaa rfl ⟨λxs css tvs m' q=>∃(j gj p:Nat)(P':PL),j<=n.subs.length/\xs=[.int .i64 (p:Nat),.int .i64 (j:Nat)]/\p<=s.length/\St fb kb root sa s sc pa pc np m' P'/\Q=(Zja s (n.t.subs.drop j) gj p to P',0)/\to∈Zg1 (e0s s (n.t.subs.drop j)) p/\ZxH (n.subs.drop j) gj/\gj+ZdD (n.t.subs.drop j)<=np/\q=n.subs.length - j,⟨_,0,g,i,P,by omega,rfl,hi,cW,hQ,jS,eB,oA,rfl⟩,?_⟩⟩
  rintro p' y m3 q _ ⟨j,gj,p,P',hj,cJ,hp',dV,fJ,rA,nG,tF,rfl⟩
  simp only[List.cons.injEq,Value.int.injEq,true_and,and_true]at cJ
  obtain⟨rfl,rfl⟩:=cJ
  refine Zab (λbF=>?_) (λcR=>?_)
  ·have bI:j < n.subs.length:=by have:=of_decide_eq_true bF;simp only[slN]at this;omega
   obtain⟨x,hx⟩:∃x,n.subs[j]?=some x:=⟨_,List.getElem?_eq_getElem bI⟩
   have gZ:=List.mem_of_getElem? hx
   have eL:x.t.right=true:=hw.fin.good x (ZeS hn gZ)
   have jH:=Zz6 c7 hx
   rw[Zih jH]at fJ tF rA
   obtain⟨pY,nH⟩:=ZrY nG hx
   rw[ZdD]at tF
   rw[e0s,Zk9]at rA
   simp only[Zja]at fJ
   have gQ:=ZbF root dV.wk.fm.rep n hn
   obtain⟨b0,o,ha,hp⟩:=Zly gQ hx
   simp only[Int.toNat_natCast,Nat.mul_one,wr1 (show j<=1000000000000000 by omega)]
   refine Zaa rfl ⟨b0,o,ha,⟨by omega,by simp only[slN];omega⟩,_,hp,Zqd (ends0 x gZ p hp' m3 dV.wk) dV.kin Zbd ?_⟩
   rintro a nn c m4 cA _ ⟨a',c',hv,bG,dI⟩
   obtain⟨rfl,rfl,rfl⟩:a=a'/\nn=(x.t.ends s 0 p).length/\c=c':=by simpa using hv
   have eO:=dV.step cA dI
   refine Zqd (ZpP fb kb (Zp kb pa) root sa s sc n hn (j+1) to (by omega) (λ_=>by omega) (x.t.ends s 0 p) (λj hj=>(Zhx s x.t 0 p hp' j hj).2) (by have:=ZbV (d:=0) eL hw.fin.len hp';omega) a c m4 eO.wk bG) eO.kin ZmC ?_
   rintro z m5 c9 _ ⟨hz,tH⟩
   have gS:=eO.step c9 tH
   have wK:ZzD s n.t (j+1) to (x.t.ends s 0 p)=(x.t.e0 s p).find? (λj'=>decide (to∈Zg1 (e0s s (n.t.subs.drop (j+1))) j')):=by
    unfold ZzD
    rw[Za3]
    simp only[hE]
   rw[wK]at hz
   cases eZ:(x.t.e0 s p).find? (λj'=>decide (to∈Zg1 (e0s s (n.t.subs.drop (j+1))) j'))with
   | none=>
    exfalso
    obtain⟨w,eM,dS⟩:=rA
    have:=List.find?_eq_none.1 eZ w eM
    simp at this
    exact this dS
   | some w=>
    rw[eZ]at hz fJ
    obtain rfl:z=(w:Int):=by simpa[ZAe]using hz
    have uM:=List.mem_of_find?_eq_some eZ
    have Ap:to∈Zg1 (e0s s (n.t.subs.drop (j+1))) w:=by have:=List.find?_some eZ;simpa using this
    have uN:=(ZaO s x.t p hp' w uM).2
    refine Zqd (ih x gZ gj pY (by omega) p w hp' uM m5 P' gS) gS.zin Zeg ?_
    rintro z m6 fE _ ⟨_,hh,jB⟩
    refine⟨_,?_,j+1,gj+x.t.ngr,w,_,by omega,rfl,uN,gS.walk fE hh jB (Zk8 _ _ _ _ _ _),fJ,Ap,nH,by omega,rfl⟩
    omega
  ·have:j=n.subs.length:=by have:=of_decide_eq_false cR;simp only[slN]at this;omega
   subst this
   rw[List.drop_eq_nil_of_le (by omega)]at fJ
   simp only[Zja]at fJ
   refine⟨by rw[fJ];rfl,dV.wk.has,?_⟩
   rw[fJ];exact dV.pt
 ·
  have hk:n.t.k=5:=by simpa[RowKit.intOf]using h5
  obtain⟨x,cJ,jH⟩:=oneSub (.inl hk)
  have gZ:x∈n.subs:=by rw[cJ];simp
  have eL:x.t.right=true:=hw.fin.good x (ZeS hn gZ)
  obtain⟨k1,k2,k3⟩:=lI hk
  rw[if_neg (by omega),if_neg (by omega),if_neg (by omega),if_pos hk]at hQ
  rw[if_neg (by omega),Nat.zero_add,jH,ZdD,ZdD]at oA
  rw[if_neg (by omega),Nat.add_zero,cJ]at eB
  have eB:x.num g:=eB.1
  have hE:∀d j,n.t.ends s d j=Zkp (hd0 s n.t.subs) n.t.mn n.t.mx (mR s.length n.t.mn n.t.mx d j+1) d j:=λd j=>by
   unfold T.ends
   rw[if_neg (by omega),if_pos hk]
  have dX:mR s.length n.t.mn n.t.mx 0 i<=1000:=by
   have:=hw.fin.len
   unfold mR
   split
   ·omega
   ·rcases k3 with h|⟨_,_,h⟩ <;> omega
  refine⟨λxs css tvs m' q=>∃(p d r fu:Nat)(P':PL),xs=[.int .i64 (p:Nat),.int .i64 (d:Nat),.int .i64 (r:Nat)]/\p<=s.length/\d<=1000/\r+mR s.length n.t.mn n.t.mx d p<=1000/\mR s.length n.t.mn n.t.mx d p < fu/\St fb kb root sa s sc pa pc np m' P'/\Q=ZnK (hdW s n.t.subs g) (hd0 s n.t.subs) s.length n.t.mn n.t.mx to fu d p P' r/\q=mR s.length n.t.mn n.t.mx d p,⟨_,i,0,0,_,P,rfl,hi,by omega,by omega,Nat.lt_succ_self _,cW,hQ,rfl⟩,?_⟩
  rintro p' d' r' m3 q _ ⟨p,d,r,fu,P',tI,hp',hd,hr,mU,dV,fJ,rfl⟩
  simp only[List.cons.injEq,Value.int.injEq,true_and,and_true]at tI
  obtain⟨rfl,rfl,rfl⟩:=tI
  have gQ:=ZbF root dV.wk.fm.rep n hn
  refine⟨_,trivial,Zn2 n d m3 gQ lI hk (by omega),λv m' css h=>by unfold Ret at h;rw[h];rfl,?_⟩
  rintro n1 b1 m4 cA p8
  simp only[Ret,Value.tuple.injEq,Array.mk.injEq,List.cons.injEq,Value.int.injEq,Value.bool.injEq,true_and,and_true]at p8
  obtain⟨rfl,rfl⟩:=p8
  have eO:=dV.le cA
  obtain⟨X,hX⟩:∃X,X=Zch (hd0 s n.t.subs) n.t.mn n.t.mx d p:=⟨_,rfl⟩
  have dG:=ZpN fb kb (Zp kb pa) root sa s sc n hn hk d p (by omega) hp' (λx hx=>ends0 x hx p hp') m4 eO.wk
  rw[<-hX]at dG
  have se:X.length<=513:=by
   rw[hX]
   unfold Zch
   split
   ·have h1:=List.length_filter_le (λj=>decide (p < j)||decide ((d:Int) < n.t.mn)) (hd0 s n.t.subs p)
    have h2:(hd0 s n.t.subs p).length<=513:=by
     rw[jH]
     simp only[hd0]
     rw[<-Za3]
     exact ZbV eL hw.fin.len hp'
    omega
   ·simp
  have pY:Zbb n.t.mn n.t.mx d<=1001:=by unfold Zbb;split <;> omega
  have uK:∀z∈X,Zii n.t.mx d=true/\z∈x.t.e0 s p/\(p < z\/(d:Int) < n.t.mn):=λz hz=>by
   rw[hX]at hz
   obtain⟨q1,q2,q3⟩:=Za8 hz
   refine⟨q1,?_,q3⟩
   rw[jH]at q2;exact q2
  refine Zqd dG eO.kin Zbd ?_
  rintro a nn c m5 c9 _ ⟨a',c',hv,bG,dI⟩
  obtain⟨rfl,rfl,rfl⟩:a=a'/\nn=X.length/\c=c':=by simpa using hv
  have gS:=eO.step c9 dI
  refine Zqd (ZpP fb kb (Zp kb pa) root sa s sc n hn (Zbb n.t.mn n.t.mx d) to (by omega) (λh=>by omega) X (λj hj=>(ZaO s x.t p hp' j (uK j hj).2.1).2) (by omega) a c m5 gS.wk bG) gS.kin ZmC ?_
  rintro z m6 fE _ ⟨hz,qo⟩
  have nI:=gS.step fE qo
  obtain⟨f',rfl⟩:∃f',fu=f'+1:=⟨fu - 1,by omega⟩
  have wK:ZzD s n.t (Zbb n.t.mn n.t.mx d) to X=X.find? (λj=>decide (to∈Zkp (hd0 s n.t.subs) n.t.mn n.t.mx (mR s.length n.t.mn n.t.mx (Zbb n.t.mn n.t.mx d) j+1) (Zbb n.t.mn n.t.mx d) j)):=by
   unfold ZzD
   simp only[hE]
  rw[wK]at hz
  unfold ZnK at fJ
  rw[<-hX]at fJ
  cases eZ:X.find? (λj=>decide (to∈Zkp (hd0 s n.t.subs) n.t.mn n.t.mx (mR s.length n.t.mn n.t.mx (Zbb n.t.mn n.t.mx d) j+1) (Zbb n.t.mn n.t.mx d) j))with
  | none=>
   rw[eZ]at hz fJ
   obtain rfl:z=-1:=by simpa[ZAe]using hz
   refine ZjJ (by decide) ⟨by rw[fJ],qo,?_⟩
   rw[fJ];exact nI.pt
  | some w=>
   rw[eZ]at hz fJ
   obtain rfl:z=(w:Int):=by simpa[ZAe]using hz
   have uM:=List.mem_of_find?_eq_some eZ
   obtain⟨w1,w2,w3⟩:=uK w uM
   have uN:=ZaO s x.t p hp' w w2
   have bF:=ZrS (len:=s.length) k1 (k3.imp id λh=>h.2.1) w1 uN w3
   have qp:=ZbF root nI.wk.fm.rep n hn
   obtain⟨_,_,_,_,_,_,g10'⟩:=ZiF qp
   obtain⟨b0,o,ha,hp⟩:=Zly qp (j:=0) (x:=x) (by rw[cJ];rfl)
   refine ZiP (by simp) ⟨_,g10',Zaa rfl ⟨b0,o,ha,⟨by omega,by simp[slN,cJ]⟩,_,hp,Zqd (ih x gZ g eB (by omega) p w hp' w2 m6 P' nI) nI.zin Zeg ?_⟩⟩
   rintro z m7 lZ _ ⟨_,hh,jB⟩
   simp only[wr1 (show r<=1000000000000000 by omega)]
   refine⟨_,bF,w,Zbb n.t.mn n.t.mx d,r+1,f',_,rfl,uN.2,?_,by omega,by omega,nI.walk lZ hh jB (Zk8 _ _ _ _ _ _),?_,rfl⟩
   ·unfold Zbb
    unfold Zii at w1
    simp only[Bool.or_eq_true,beq_iff_eq,decide_eq_true_eq]at w1
    split <;> omega
   ·rw[fJ,jH]
    simp only[hdW]
 ·simp[RowKit.intOf]at h3 h4 h5 h6
  rw[if_neg h6,if_neg h4,if_neg h3,if_neg h5]at hQ
  refine⟨by rw[hQ];rfl,cW.wk.has,?_⟩
  rw[hQ];exact cW.pt
theorem ZsA(fb kb:Nat)(root:Nd)(sa:Option Addr)(s:List Nat)(sc:Nat)(pa:Option Addr)(pc np:Nat):∀(N:Nat)(n:Nd),SizeOf.sizeOf n < N->n∈root.all->Zy5 fb kb root sa s sc pa pc np n:=by
 intro N
 induction N with
 | zero=>intro n h;omega
 | succ N ihN=>exact λn hN hn=>ZAC fb kb root sa s sc pa pc np n hn λx hx=>ihN x (by have:=ZzV hx;omega) (ZeS hn hx)
end Go.Proofs.YtgclajkldphoaaaGreat