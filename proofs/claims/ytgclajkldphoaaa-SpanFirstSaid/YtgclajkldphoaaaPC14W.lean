/- Part of the proof: conditions and contracts of functions of this program. No condition of its own. -/
import Derived.Test.YtgclajkldphoaaaPC14Q
import Derived.Test.YtgclajkldphoaaaPC13R
import Derived.Test.YtgclajkldphoaaaMr
set_option linter.unusedVariables false
set_option linter.unusedSimpArgs false
set_option linter.unusedSectionVars false
namespace Go.Proofs.Ytgclajkldphoaaa
open Go Go.Eng Go.Rx Go.Proofs Go.RowKit
set_option maxRecDepth 100000
theorem ZiS{m:Mem}{n:Nd}(h:NRep m n):m n.b 0=some (.int .u8 n.t.k)/\m.reads n.b 1 [.int .u64 n.t.s0,.int .u64 n.t.s1,.int .u64 n.t.s2,.int .u64 n.t.s3]/\m n.b 5=some (.int .i64 n.t.mn)/\m n.b 6=some (.int .i64 n.t.mx)/\
  m n.b 8=some (.int .i64 (n.id:Nat))/\m n.b 9=some (.int .i64 (n.grp:Nat))/\m n.b 10=some (.slice n.a n.subs.length n.c):=by
 have h:=(ZdN.1 h).1
 have g:∀(j:Nat) v,n.cs[j]?=some v->m n.b j=some v:=λj v hj=>by have:=h j v hj;rwa [Nat.zero_add]at this
 refine⟨g 0 _ rfl,λj v hj=>?_,g 5 _ rfl,g 6 _ rfl,g 8 _ rfl,g 9 _ rfl,g 10 _ rfl⟩
 have bF:=(List.getElem?_eq_some_iff.1 hj).1
 have bF:j < 4:=bF
 have:j=0\/j=1\/j=2\/j=3:=by omega
 rcases this with rfl|rfl|rfl|rfl <;> (cases hj;first|exact g 1 _ rfl|exact g 2 _ rfl|exact g 3 _ rfl|exact g 4 _ rfl)
theorem ZlJ{m:Mem}{n x:Nd}{j:Nat}(h:NRep m n)(hx:n.subs[j]?=some x):∃b0 o,n.a=some ⟨b0,o,none⟩/\m b0 (o+j)=some (ptr x.b 0):=by
 rcases(ZdN.1 h).2.2.2 with h|⟨b0,o,h1,h2⟩
 ·rw[h]at hx;simp at hx
 ·exact⟨b0,o,h1,(h2.get hx).1⟩
theorem ZzT{m:Mem}{n x:Nd}{j:Nat}(h:NRep m n)(hx:n.subs[j]?=some x):n.t.subs[j]?=some x.t:=by
 rw[<-(ZdN.1 h).2.1.2,List.getElem?_map,hx];rfl
theorem ZtX{m:Mem}{n:Nd}(h:NRep m n):n.t.subs.length=n.subs.length:=by
 rw[<-(ZdN.1 h).2.1.2];simp
theorem ZtY{m:Mem}{n:Nd}(h:NRep m n):n.subs.length<=1000000000000000:=by
 rw[<-ZtX h];exact(ZdM (ZdN.1 h).2.1.1).1
theorem Zjv:∀{l seen:List Nat},seen.Nodup->(ZjJ seen l).Nodup
 | [],seen,h=>h
 | i::l,seen,h=>by
  unfold ZjJ
  split
  ·exact Zjv h
  ·rename_i hi
   exact Zjv (List.nodup_append.2 ⟨h,by simp,λa ha b hb e=>by simp at hb;subst hb;exact hi (e ▸ ha)⟩)
def ZzU(t:T):Prop:=t.k=5->0<=t.mn/\t.mn<=16/\(t.mx=-1\/(1<=t.mx/\t.mn<=t.mx/\t.mx<=16))
theorem Zeo{t:T}(h:t.right=true):ZzU t:=λh5=>by
 rcases ZgD h with h|h|h|h|h|h
 ·omega
 ·omega
 ·omega
 ·omega
 ·exact h.2.2
 ·omega
theorem Zu9{s:List Nat}{t:T}{d i:Nat}(h:t.right=true)(hi:i<=s.length):t.ends s d i=ddp (t.lists s d i).flatten:=
 ZqW s t d i hi λh5=>by
  obtain⟨h1,_,h3⟩:=Zeo h h5
  exact⟨h1,h3.imp id λh=>h.2.1⟩
theorem Zzp{l:List Nat}(hn:l.Nodup)(h:∀x∈l,x<=512):l.length<=513:=by
 have:=List.Nodup.length_le_of_subset hn (l₂:=List.range 513) (λx hx=>List.mem_range.2 (by have:=h x hx;omega))
 simpa using this
theorem Zb2{s:List Nat}{t:T}{d i:Nat}(h:t.right=true)(hs:s.length<=512)(hi:i<=s.length):(t.ends s d i).length<=513:=by
 refine Zzp ?_ λx hx=>?_
 ·rw[Zu9 h hi];exact Zjv (by simp)
 ·have:=ZhJ s t d i hi x hx;omega
structure Wk (m:Mem)(fb kb:Nat)(Z:Nat->Prop)(root:Nd)(sa:Option Addr)(s:List Nat)(sc:Nat):Prop where
 fin:Fin (m.off Z) fb kb root sa s sc
 has:HasM m kb Z root s
 z:ZOk m kb Z
theorem Wk.le{m m':Mem}{fb kb:Nat}{Z:Nat->Prop}{root:Nd}{sa:Option Addr}{s:List Nat}{sc:Nat}(h:Wk m fb kb Z root sa s sc)(hm:m.le m'):Wk m' fb kb Z root sa s sc:=⟨h.fin.mono (Zgk hm),h.has.le hm,h.z.le hm⟩
theorem Wk.next{m m':Mem}{fb kb:Nat}{Z:Nat->Prop}{root:Nd}{sa:Option Addr}{s:List Nat}{sc:Nat}(h:Wk m fb kb Z root sa s sc)(hm:(but m kb).le m')(hh:HasM m' kb Z root s):Wk m' fb kb Z root sa s sc:=⟨h.fin.mono (ZuE h.z.1 hm),hh,h.z.next hm⟩
theorem Wk.fb{m:Mem}{fb kb:Nat}{Z:Nat->Prop}{root:Nd}{sa:Option Addr}{s:List Nat}{sc:Nat}(h:Wk m fb kb Z root sa s sc):Fin (but m kb) fb kb root sa s sc:=h.fin.mono (Zo6 h.z.1)
theorem Wk.fm{m:Mem}{fb kb:Nat}{Z:Nat->Prop}{root:Nd}{sa:Option Addr}{s:List Nat}{sc:Nat}(h:Wk m fb kb Z root sa s sc):Fin m fb kb root sa s sc:=h.fin.mono (Mem.off_le _ _)
def Zyf(kb:Nat)(Z:Nat->Prop)(root:Nd)(s X:List Nat):RTY:=λv m' _ _=>∃a c,v=.slice a X.length c/\rowRd (m'.off Z) a (nsL X)/\HasM m' kb Z root s
theorem Zbf{kb:Nat}{Z:Nat->Prop}{root:Nd}{s X:List Nat}:∀(v:Value)(m':Mem) (css:List (List Value)) (tvs:List Value),Zyf kb Z root s X v m' css tvs->Shape.fits Shape.slice v=true:=λv _ _ _ ⟨a,c,h,_⟩=>by rw[h];rfl
def ZmI(fb kb:Nat)(Z:Nat->Prop)(root:Nd)(sa:Option Addr)(s:List Nat)(sc:Nat)(n:Nd)(d i:Nat):Prop:=
 ∀m:Mem,Wk m fb kb Z root sa s sc->CXY Try.prog 44 #[.pointer (some ⟨fb,0,none⟩),.pointer (some ⟨n.b,0,none⟩),.int .i64 (d:Nat),.int .i64 (i:Nat)] m (λb=>b=kb) [] [] (Zyf kb Z root s (n.t.ends s d i))
theorem Zqe{P:Program}{g:FuncId}{args:Array Value}{m m0:Mem}{kb:Nat}{R0:RTY}{K:Option Addr->Nat->Nat->Mem->Prop}(h:CXY P g args m (λb=>b=kb) [] [] R0)(hk:∃es,m.k kb=some es)(hf:∀(v:Value)(m':Mem) (css:List (List Value)) (tvs:List Value),R0 v m' css tvs->Shape.fits Shape.slice v=true)
  (k:∀a n c m',(but m kb).le m'->R0 (.slice a n c) m' [] []->K a n c m'):
  ∃(Y:Nat->Prop),∃(R:Value->Mem->List (List Value)->List Value->Prop),CXY P g args m Y [] [] R/\(∀(t:Tok),t∈[]->∀(b:Nat),t.blk=some b->Y b)/\
   (∀(b:Nat),Y b->(∃(t:Tok),t∈[]/\t.blk=some b)\/(Mem.free (but m0 kb) b/\Mem.k (but m0 kb) b=none)/\((∃(o:Nat),∃(v:Value),m b o=some v)\/∃(e:List (Value×Value)),Mem.k m b=some e)/\True)/\
   (∀(v:Value)(m':Mem) (css:List (List Value)) (tvs:List Value),R v m' css tvs->Shape.fits Shape.slice v=true)/\
   ∀(a:Option Addr)(n c:Nat)(m':Mem),Mem.le (Mem.off m Y) m'->(NewM m m' λ(b:Nat)=>Y b\/Mem.free m b)->R (.slice a n c) m' [] []->K a n c m':=
 ⟨λb=>b=kb,R0,h,by simp,λb hb=>.inr ⟨by subst hb;exact⟨Zlm,Zni⟩,.inr (by subst hb;exact hk),trivial⟩,hf,λa n c m' h1 _ h2=>k a n c m' h1 h2⟩
theorem Zn3(n:Nd)(d:Nat)(m:Mem)(h:NRep m n)(hk:ZzU n.t)(h5:n.t.k=5)(hd:d<=1000000000000000):CX Try.prog 75 #[.pointer (some ⟨n.b,0,none⟩),.int .i64 (d:Nat)] m [] (Ret (.tuple #[.int .i64 (Zbe n.t.mn n.t.mx d:Nat),.bool (Ziv n.t.mx d)])):=by
 apply ZlG
 unfold ZhR
 obtain⟨h1,h2,h3⟩:=hk h5
 obtain⟨_,_,g5,g6,_⟩:=ZiS h
 have fQ:IntKind.i64.wrap ((d:Int)+1)=((d+1:Nat):Int):=by rw[ZaO (by omega) (by omega)];rfl
 simp only[fQ]
 refine⟨_,g6,Zaa rfl (Zab (λhq=>⟨_,g6,Zaa rfl (Zag (Mem.le_refl _) ?_)⟩) (λhq=>⟨_,g5,Zaa rfl (Zag (Mem.le_refl _) ?_)⟩))⟩
 ·have hq':n.t.mx≠-1:=by simpa[RowKit.intOf]using hq
  unfold Ret Zbe Ziv
  rw[if_neg hq',beq_eq_false_iff_ne.2 hq',Bool.false_or];rfl
 ·have hq':n.t.mx=-1:=by simpa[RowKit.intOf]using hq
  unfold Ret Zbe Ziv
  rw[if_pos hq',hq']
  congr 3
  show Value.int .i64 (if n.t.mn < _ then n.t.mn else _)=_
  congr 1
  split <;> omega
theorem ZpN{α:Type}{p:α->Bool}{l:List α}{j:Nat}{x:α}(h:l[j]?=some x):(l.take (j+1)).filter p=if p x=true then(l.take j).filter p++[x]else(l.take j).filter p:=by
 rw[Zcf h,List.filter_append]
 simp only[List.filter_cons,List.filter_nil]
 split <;> simp
theorem ZpO(fb kb:Nat)(Z:Nat->Prop)(root:Nd)(sa:Option Addr)(s:List Nat)(sc:Nat)(n:Nd)(hn:n∈root.all)(h5:n.t.k=5)(d i:Nat)(hd:d<=1000000000000000)(hi:i<=s.length)(ih:∀x∈n.subs,ZmI fb kb Z root sa s sc x 0 i)(m:Mem)(hw:Wk m fb kb Z root sa s sc):
  CXY Try.prog 76 #[.pointer (some ⟨fb,0,none⟩),.pointer (some ⟨n.b,0,none⟩),.int .i64 (d:Nat),.int .i64 (i:Nat)] m (λb=>b=kb) [] [] (Zyf kb Z root s (Zcp (hd0 s n.t.subs) n.t.mn n.t.mx d i)):=by
 have hg:=hw.fin.good n hn
 have lS:=Zeo hg
 have cX:=ZbL root hw.fm.rep n hn
 obtain⟨x0,gX⟩:∃x,n.t.subs=[x]:=by
  rcases ZgD hg with h|h|h|h|h|h <;> first|omega|exact h.2.1|exact h.2
 obtain⟨x,cJ⟩:∃x,n.subs=[x]:=by
  have:=ZtX cX
  rw[gX]at this
  match bV:n.subs,this with
  | [x],_=>exact⟨x,rfl⟩
 have hx:n.subs[0]?=some x:=by rw[cJ];rfl
 have jL:x0=x.t:=by
  have:=ZzT cX hx
  rw[gX]at this;simpa using this
 subst jL
 have gV:x∈n.subs:=by rw[cJ];simp
 have eC:x.t.right=true:=hw.fin.good x (ZeZ hn gV)
 obtain⟨X,hX⟩:∃X,X=x.t.ends s 0 i:=⟨_,rfl⟩
 have tZ:X.length<=513:=by rw[hX];exact Zb2 eC hw.fin.len hi
 have dC:Zcp (hd0 s n.t.subs) n.t.mn n.t.mx d i=if Ziv n.t.mx d=true then X.filter (λj=>decide (i < j)||decide ((d:Int) < n.t.mn))else[]:=by
  unfold Zcp
  rw[gX,hX,Za9];simp[hd0]
 apply ZeQ
 unfold Zc9
 refine⟨_,trivial,Zn3 n d m cX lS h5 hd,λv m' css h=>by unfold Ret at h;rw[h];rfl,?_⟩
 rintro n1 b1 m1 bH iH
 simp only[Ret,Value.tuple.injEq,Array.mk.injEq,List.cons.injEq,Value.int.injEq,Value.bool.injEq,true_and,and_true]at iH
 obtain⟨rfl,rfl⟩:=iH
 have eF:=hw.le bH
 refine Zab (λhq=>⟨none,0,?_,?_,eF.has⟩) (λhq=>?_)
 ·rw[dC,if_neg (by simpa using hq)];rfl
 ·rw[dC,if_neg (by simpa using hq)];exact .inl rfl
 have t4:Ziv n.t.mx d=true:=by simpa using hq
 rw[dC,if_pos t4]
 have qE:=ZbL root eF.fm.rep n hn
 obtain⟨_,_,_,_,_,_,g10⟩:=ZiS qE
 obtain⟨b0,o,ha,hp⟩:=ZlJ qE hx
 obtain⟨es1,iZ,_⟩:=eF.has
 refine⟨_,g10,Zaa rfl ⟨b0,o,ha,⟨by omega,by simp[slN,cJ]⟩,_,hp,Zqe (ih x gV m1 eF) ⟨es1,iZ⟩ Zbf ?_⟩⟩
 rintro a nn c m2 bL ⟨a',c',hv,bG,dH⟩
 obtain⟨rfl,rfl,rfl⟩:a=a'/\nn=(x.t.ends s 0 i).length/\c=c':=by simpa using hv
 rw[<-hX]at bG
 rw[<-hX]
 have dT:=eF.next bL dH
 obtain⟨p,wT⟩:∃p:Nat->Bool,p=λj=>decide (i < j)||decide ((d:Int) < n.t.mn):=⟨_,rfl⟩
 rw[<-wT]
 have nJ:∀j,((X.take j).filter p).length<=513:=λj=>by
  have h1:=List.length_filter_le p (X.take j)
  have h2:=List.length_take_le j X
  have h3:(X.take j).length<=X.length:=by rw[List.length_take];omega
  omega
 refine⟨λxs css tvs m' q=>∃(j:Nat)(a2:Option Addr)(c2:Nat),j<=X.length/\xs=[.slice a2 ((X.take j).filter p).length c2,.int .i64 (j:Nat)]/\tvs=[.slice a2 ((X.take j).filter p).length c2]/\(but m2 kb).le m'/\HasM m' kb Z root s/\SeenAt m' (λb=>¬Z b) a2 ((X.take j).filter p)/\q=X.length - j,⟨_,0,none,0,by omega,rfl,rfl,Zix _ _,dH,.inl ⟨rfl,rfl⟩,rfl⟩,?_⟩
 rintro ab aa c2 af ac ad ae m3 ai _ ⟨j,a2,c2',hj,nS,fN,dG,fU,hS,rfl⟩
 simp only[List.cons.injEq,Value.int.injEq,Value.slice.injEq,true_and,and_true]at nS
 obtain⟨⟨rfl,rfl,rfl⟩,rfl⟩:=nS
 obtain⟨rfl,rfl,rfl⟩:ac=ab/\ad=((X.take j).filter p).length/\ae=c2:=by simpa using fN
 have oW:=dT.next dG fU
 have gK:=ZbL root oW.fm.rep n hn
 obtain⟨es3,dY,_⟩:=fU
 refine Zab (λbF=>?_) (λcP=>?_)
 ·have bI:j < X.length:=by have:=of_decide_eq_true bF;omega
  obtain⟨y,hy⟩:∃y,X[j]?=some y:=⟨_,List.getElem?_eq_getElem bI⟩
  have fQ:IntKind.i64.wrap ((j:Int)+1)=((j+1:Nat):Int):=by rw[ZaO (by omega) (by omega)];rfl
  have cG:=ZpN (p:=p) hy
  rcases((bG.mono (Zo6 dT.z.1)).mono dG)with h|⟨b,o2,h1,h2⟩
  ·have:X=[]:=by simpa[nsL]using h
   rw[this]at bI;simp at bI
  obtain⟨_,_,g5,_⟩:=ZiS gK
  simp only[Int.toNat_natCast,Nat.mul_one,fQ]
  refine⟨b,o2,h1,⟨by omega,by omega⟩,.int .i64 (y:Nat),h2 j _ (by rw[nsL,List.getElem?_map,hy];rfl),p y,Zaa rfl (Zab (λkR=>⟨by trivial,Zaq ?_⟩) (λkR=>⟨_,g5,Zaa rfl ⟨by trivial,Zaq ?_⟩⟩)),Zab (λrQ=>Zaa rfl λag qS=>⟨.inl (by trivial),nsL ((X.take j).filter p),[.int .i64 (y:Nat)],?_,rfl,hS.row.mono (Mem.le_add qS _),.inr ⟨ag,0,rfl,?_⟩,?_,?_,?_,λa4 c4 m4 bZ cO hf=>?_⟩) (λrQ=>⟨_,?_,j+1,ac,ae,by omega,?_,?_,dG,⟨es3,dY,by assumption⟩,?_,rfl⟩)⟩
  ·have:(i:Int) < (y:Nat):=by have:=of_decide_eq_true kR;simpa[RowKit.intOf]using this
   rw[wT];simp;left;omega
  ·have:¬(i:Int) < (y:Nat):=by have:=of_decide_eq_false kR;simpa[RowKit.intOf]using this
   rw[wT]
   have hn:decide (i < y)=false:=by simp;omega
   simp only[hn,Bool.false_or];rfl
  ·simp[nsL]
  ·intro q v hq;rw[Nat.zero_add,Mem.add_same];exact hq
  ·intro u hu;obtain rfl:u=.int .i64 (y:Nat):=by simpa using hu
   rfl
  ·have:=nJ j;omega
  ·have:=nJ j;omega
  ·have hM:m3.le m4:=mLt (Mem.le_add qS _) bZ
   refine⟨_,?_,j+1,a4,c4,by omega,?_,?_,mLt dG hM,HasM.le ⟨es3,dY,by assumption⟩ hM,?_,rfl⟩
   ·omega
   ·rw[cG,if_pos rQ];simp
   ·rw[cG,if_pos rQ];simp
   ·rw[cG,if_pos rQ]
    refine hS.push (M:=m3.add ag [.int .i64 (y:Nat)]) cO hf λb3 eQ eB=>oW.z.new ⟨es3,dY⟩ (ZiR (by simp) eQ).2 eB
  ·omega
  ·rw[cG,if_neg (by simp[rQ])]
  ·rw[cG,if_neg (by simp[rQ])]
  ·rw[cG,if_neg (by simp[rQ])];exact hS
 ·have:j=X.length:=by have:=of_decide_eq_false cP;omega
  subst this
  rw[List.take_length]at hS ⊢
  refine⟨ac,ae,rfl,?_,⟨es3,dY,by assumption⟩⟩
  rcases hS with⟨h1,_⟩|⟨b,h1,h2,h3,_⟩
  ·rw[h1];exact .inl rfl
  ·exact .inr ⟨b,0,h1,λq v hq=>by rw[Mem.off_at h2];exact h3 q v hq⟩
theorem Zwf(fb nb:Nat)(d i:Int)(m:Mem):CX Try.prog 72 #[.pointer (some ⟨fb,0,none⟩),.pointer (some ⟨nb,0,none⟩),.int .i64 d,.int .i64 i] m [] (λv m' _=>∃c0 c1 c2 c3,v=.func (.func 91) #[] #[.pointer (some ⟨c0,0,none⟩),.pointer (some ⟨c1,0,none⟩),.pointer (some ⟨c2,0,none⟩),.pointer (some ⟨c3,0,none⟩)]/\
  (m'.reads c0 0 [.pointer (some ⟨nb,0,none⟩)]/\m'.reads c1 0 [.int .i64 i]/\m'.reads c2 0 [.pointer (some ⟨fb,0,none⟩)]/\m'.reads c3 0 [.int .i64 d])/\(m.k c0=none/\m.k c1=none/\m.k c2=none/\m.k c3=none)):=by
 apply Zfk
 unfold Zc8
 intro b m1 bH hb _ _ hk b1 m2 bL eQ _ _ gA b2 m3 bX eB _ _ iO b3 m4 bZ kM _ _ oO
 have none_le:∀{a c:Mem} {x:Nat},a.le c->c.k x=none->a.k x=none:=λ{a c x} h e=>by
  cases he:a.k x with
  | none=>rfl
  | some u=>rw[h.k _ _ he]at e;cases e
 have yP:=mLt bH bL
 have wU:=mLt yP bX
 exact⟨m4,mLt wU bZ,Mem.le_refl _,b1,b3,b,b2,rfl,⟨eQ.mono (mLt bX bZ),kM,hb.mono (mLt bL (mLt bX bZ)),eB.mono bZ⟩,none_le bH gA,none_le wU oO,hk,none_le yP iO⟩
theorem ZlK{M:Mem}{b kb:Nat}{LL:List (List Nat)}{q x:Nat}(hq:LL[q]?=some [x])(hk:∃es,M.k kb=some es):ZwD LL kb q [.slice (some ⟨b,0,none⟩) 1 1] (M.add b [.int .i64 (x:Nat)]):=
 ⟨⟨[x],some ⟨b,0,none⟩,1,hq,rfl,.inr ⟨b,0,rfl,λj v hj=>by rw[Nat.zero_add,Mem.add_same];exact hj⟩⟩,hk⟩
theorem ZiT{m2:Mem}{kb:Nat}{Z:Nat->Prop}{root:Nd}{s X:List Nat}{LL:List (List Nat)}{q:Nat}{a:Option Addr}{nn c:Nat}(hq:LL[q]?=some X)(h:Zyf kb Z root s X (.slice a nn c) m2 [] []):ZwD LL kb q [.slice a nn c] m2:=by
 obtain⟨a',c',hv,bG,es,eD,_⟩:=h
 obtain⟨rfl,rfl,rfl⟩:a=a'/\nn=X.length/\c=c':=by simpa using hv
 exact⟨⟨X,a,c,hq,rfl,bG.mono (Mem.off_le _ _)⟩,es,eD⟩
structure Cap (B:Mem)(fb:Nat)(n:Nd)(d i c0 c1 c2 c3:Nat):Prop where
 c0:B c0 0=some (.pointer (some ⟨n.b,0,none⟩))
 c1:B c1 0=some (.int .i64 (i:Nat))
 c2:B c2 0=some (.pointer (some ⟨fb,0,none⟩))
 c3:B c3 0=some (.int .i64 (d:Nat))
theorem Cap.mono{B B':Mem}{fb:Nat}{n:Nd}{d i c0 c1 c2 c3:Nat}(h:Cap B fb n d i c0 c1 c2 c3)(hB:B.le B'):Cap B' fb n d i c0 c1 c2 c3:=⟨hB.c _ _ _ h.c0,hB.c _ _ _ h.c1,hB.c _ _ _ h.c2,hB.c _ _ _ h.c3⟩
theorem wr1{j:Nat}(h:j<=1000000000000000):IntKind.i64.wrap ((j:Int)+1)=((j+1:Nat):Int):=by rw[ZaO (by omega) (by omega)];rfl
theorem ZtZ(fb kb:Nat)(Z:Nat->Prop)(root:Nd)(sa:Option Addr)(s:List Nat)(sc:Nat)(n:Nd)(hn:n∈root.all)(d i:Nat)(hd:d<=1000000000000000)(hi:i<=s.length)(mC:n.t.k=3->d<=n.subs.length)
  (ihs:∀x∈n.subs,∀j,j<=s.length->ZmI fb kb Z root sa s sc x 0 j) (ih3:n.t.k=3->d < n.subs.length->∀j,j<=s.length->ZmI fb kb Z root sa s sc n (d+1) j)
  (ih5:n.t.k=5->∀j∈Zcp (hd0 s n.t.subs) n.t.mn n.t.mx d i,ZmI fb kb Z root sa s sc n (Zbe n.t.mn n.t.mx d) j) (m:Mem) (hw:Wk m fb kb Z root sa s sc) (c0 c1 c2 c3:Nat) (hc:Cap (but m kb) fb n d i c0 c1 c2 c3):
  IXY Try.prog 91 [] [.pointer (some ⟨c0,0,none⟩),.pointer (some ⟨c1,0,none⟩),.pointer (some ⟨c2,0,none⟩),.pointer (some ⟨c3,0,none⟩)] m (λb=>b=kb) (n.t.lists s d i).length (ZwD (n.t.lists s d i) kb) (λm'=>HasM m' kb Z root s):=by
 have hg:=hw.fin.good n hn
 have lS:=Zeo hg
 have jY:=ZbL root hw.fb.rep n hn
 have cX:=NRep.mono (Zix m kb) _ jY
 have kL:=hc.mono (Zix m kb)
 obtain⟨g0,g1,g5,g6,g8,g9,g10⟩:=ZiS cX
 obtain⟨_,_,_,_,_,_,g10B⟩:=ZiS jY
 have bM:=ZtX cX
 have jA:=ZtY cX
 obtain⟨es,eD,cE⟩:=hw.has
 have one:∀{b:Nat},m.free b->(n.t.lists s d i)=[[i]]->∃LL,True:=λ_ _=>⟨(),trivial⟩
 have oneSub:n.t.k=5\/n.t.k=6->∃x,n.subs=[x]/\n.t.subs=[x.t]:=λh=>by
  obtain⟨x0,gX⟩:∃x,n.t.subs=[x]:=by
   rcases ZgD hg with h'|h'|h'|h'|h'|h' <;> first|omega|exact h'.2.1|exact h'.2
  have hl:=bM
  rw[gX]at hl
  match bV:n.subs,hl with
  | [x],_=>
   have:=ZzT cX (j:=0) (x:=x) (by rw[bV];rfl)
   rw[gX]at this
   exact⟨x,rfl,by rw[gX];simpa using this⟩
 apply ZdU 0 [] []
 unfold ZcC
 intro l
 refine⟨_,kL.c0,Zaa rfl (Zaa rfl ⟨_,g0,Zaa rfl (Zab (λh1=>?_) (λh1=>Zaa rfl (Zab (λh2=>?_) (λh2=>Zaa rfl (Zab (λh6=>?_) (λh6=>Zaa rfl (Zab (λh4=>?_) (λh4=>Zaa rfl (Zab (λh3=>?_) (λh3=>Zaa rfl (Zab (λh5=>?_) (λh5=>?_))))))))))))⟩)⟩
 ·
  have hk:n.t.k=1:=by simpa[RowKit.intOf]using h1
  have gC:n.t.lists s d i=[[i]]:=by unfold T.lists;rw[if_pos hk]
  rw[gC]
  exact⟨_,kL.c1,Zaa rfl λb hb=>⟨⟨by trivial,0,rfl,by simp,ZlK rfl ⟨es,eD⟩⟩,rfl,HasM.le hw.has (Mem.le_add hb _)⟩⟩
 ·
  have hk:n.t.k=2:=by simpa[RowKit.intOf]using h2
  have gC:n.t.lists s d i=(match s[i]? with
   | some c=>if n.t.hasB c=true then[[i+1]]else[]
   | none=>[]):=by unfold T.lists;rw[if_neg (by omega),if_pos hk];cases s[i]? <;> rfl
  have hs:=hw.fm.str
  have gL:=hw.fm.byt
  have yQ:=hw.fin.len
  refine⟨λ_ _ _=>Ret (.bool (n.t.hasB ((s[i]?).getD 0))),_,kL.c1,_,kL.c2,Zaa rfl (Zaa rfl ⟨_,hs,Zaa rfl (Zaa rfl (Zab (λbF=>?_) (λcP=>?_)))⟩)⟩
  ·have bI:i < s.length:=by have:=of_decide_eq_true bF;simpa[RowKit.intOf,slN]using this
   obtain⟨c,cR⟩:∃c,s[i]?=some c:=⟨_,List.getElem?_eq_getElem bI⟩
   obtain⟨⟨b,o,nP,uP⟩,jX⟩:=gL.get cR
   rw[cR]at gC
   simp only at gC
   refine⟨_,kL.c0,Zaa rfl (Zaa rfl ⟨_,_,_,_,g1,_,kL.c2,Zaa rfl (Zaa rfl ⟨_,hs,_,kL.c1,Zaa rfl (Zaa rfl ⟨b,o,nP,⟨by simp[RowKit.intOf],by simp[RowKit.intOf,slN];omega⟩,.int .u8 (c:Nat),?_,_,rfl,?_,?_,?_⟩)⟩)⟩)⟩
   ·simp only[RowKit.intOf,Int.toNat_natCast,Nat.mul_one];exact uP
   ·rw[cR];exact Zsy n.t c jX m (ZdN.1 cX).2.1.1
   ·intro v m' css h;unfold Ret at h;rw[h];rfl
   ·intro bb m' hm' hR M hM _
    have hR:bb=n.t.hasB c:=by rw[cR]at hR;simpa[Ret]using hR
    refine Zab (λhq=>⟨_,hM.c _ _ _ kL.c1,Zaa rfl λb2 eB=>?_⟩) (λhq=>?_)
    ·rw[if_pos (by rw[<-hR];exact hq)]at gC
     rw[gC]
     simp only[RowKit.intOf,wr1 (show i<=1000000000000000 by omega)]
     exact⟨⟨by trivial,0,rfl,by simp,ZlK rfl ⟨es,hM.k _ _ eD⟩⟩,rfl,HasM.le (HasM.le hw.has hM) (Mem.le_add eB _)⟩
    ·rw[if_neg (by rw[<-hR,hq];simp)]at gC
     rw[gC]
     exact⟨rfl,HasM.le hw.has hM⟩
  ·have wV:s.length<=i:=by have:=of_decide_eq_false cP;simpa[RowKit.intOf,slN]using this
   have cR:s[i]?=none:=List.getElem?_eq_none_iff.2 wV
   rw[cR]at gC
   rw[gC]
   exact λM hM _=>⟨rfl,HasM.le hw.has hM⟩
 ·
  have hk:n.t.k=6:=by simpa[RowKit.intOf]using h6
  obtain⟨x,cJ,jL⟩:=oneSub (.inr hk)
  have hx:n.subs[0]?=some x:=by rw[cJ];rfl
  have gC:n.t.lists s d i=[x.t.ends s 0 i]:=by unfold T.lists;rw[if_neg (by omega),if_neg (by omega),if_pos hk,jL,Za9];simp[hd0]
  obtain⟨b0,o,ha,hp⟩:=ZlJ jY hx
  rw[gC]
  refine⟨_,hc.c2,_,hc.c0,Zaa rfl (Zaa rfl ⟨_,g10B,Zaa rfl ⟨b0,o,ha,⟨by omega,by simp[slN,cJ]⟩,_,hp,_,hc.c1,Zqe (ihs x (by rw[cJ];simp) i hi m hw) ⟨es,eD⟩ Zbf ?_⟩⟩)⟩
  intro a nn c m2 bL hR
  exact⟨⟨by trivial,0,rfl,by simp,ZiT rfl hR⟩,rfl,by obtain⟨_,_,_,_,h⟩:=hR;exact h⟩
 ·
  have hk:n.t.k=4:=by simpa[RowKit.intOf]using h4
  have gC:n.t.lists s d i=n.subs.map λx=>x.t.ends s 0 i:=by
   unfold T.lists
   rw[if_neg (by omega),if_neg (by omega),if_neg (by omega),if_pos hk,<-(ZdN.1 cX).2.1.2,List.map_map]
   refine List.map_congr_left λx _=>?_
   simp[Za9]
  rw[gC,List.length_map]
  refine⟨_,kL.c0,Zaa rfl (Zaa rfl ⟨_,g10,Zaa rfl ⟨λxs css tvs m' q=>∃j:Nat,j<=n.subs.length/\xs=[.int .i64 (j:Nat),.int .i64 (j:Nat)]/\(but m kb).le m'/\HasM m' kb Z root s/\q=n.subs.length - j,⟨_,0,by omega,rfl,Zix _ _,hw.has,rfl⟩,?_⟩⟩)⟩
  rintro y ag m1 ak _ ⟨j,hj,cJ,lX,qF,rfl⟩
  simp only[List.cons.injEq,Value.int.injEq,true_and,and_true]at cJ
  obtain⟨rfl,rfl⟩:=cJ
  have eF:=hw.next lX qF
  have oU:=hc.mono lX
  obtain⟨es1,iZ,_⟩:=qF
  refine Zab (λbF=>?_) (λcP=>?_)
  ·have bI:j < n.subs.length:=by have:=of_decide_eq_true bF;simp[slN]at this;omega
   obtain⟨x,hx⟩:∃x,n.subs[j]?=some x:=⟨_,List.getElem?_eq_getElem bI⟩
   obtain⟨b0,o,ha,hp⟩:=ZlJ (NRep.mono lX _ jY) hx
   simp only[Int.toNat_natCast,Nat.mul_one,wr1 (show j<=1000000000000000 by omega)]
   refine Zaa rfl ⟨b0,o,ha,⟨by omega,by simp[slN];omega⟩,_,hp,_,oU.c2,_,oU.c1,Zqe (ihs x (List.mem_of_getElem? hx) i hi m1 eF) ⟨es1,iZ⟩ Zbf ?_⟩
   intro a nn c m2 bL hR
   refine⟨⟨by trivial,j,rfl,bI,ZiT (by rw[List.getElem?_map,hx];rfl) hR⟩,_,?_,j+1,by omega,rfl,mLt (Zfs lX) bL,by obtain⟨_,_,_,_,h⟩:=hR;exact h,rfl⟩
   omega
  ·have:j=n.subs.length:=by have:=of_decide_eq_false cP;simp[slN]at this;omega
   subst this
   exact⟨rfl,es1,iZ,by assumption⟩
 ·
  have hk:n.t.k=3:=by simpa[RowKit.intOf]using h3
  have hd':=mC hk
  have gC:n.t.lists s d i=(match n.t.subs[d]? with
   | none=>[[i]]
   | some x=>(x.e0 s i).map λj=>n.t.ends s (d+1) j):=by unfold T.lists;rw[if_neg (by omega),if_neg (by omega),if_neg (by omega),if_neg (by omega),if_pos hk];cases n.t.subs[d]? <;> rfl
  refine⟨_,kL.c3,_,kL.c0,Zaa rfl (Zaa rfl ⟨_,g10,Zaa rfl (Zaa rfl (Zab (λhe=>?_) (λcT=>?_)))⟩)⟩
  ·have he':d=n.subs.length:=by simp[RowKit.intOf,slN]at he;omega
   rw[List.getElem?_eq_none_iff.2 (by omega)]at gC
   rw[gC]
   exact⟨_,kL.c1,Zaa rfl λb hb=>⟨⟨by trivial,0,rfl,by simp,ZlK rfl ⟨es,eD⟩⟩,rfl,HasM.le hw.has (Mem.le_add hb _)⟩⟩
  ·have bF:d < n.subs.length:=by simp[RowKit.intOf,slN]at cT;omega
   obtain⟨x,hx⟩:∃x,n.subs[d]?=some x:=⟨_,List.getElem?_eq_getElem bF⟩
   have gV:=List.mem_of_getElem? hx
   rw[ZzT cX hx]at gC
   simp only at gC
   rw[<-Za9]at gC
   have eC:x.t.right=true:=hw.fin.good x (ZeZ hn gV)
   obtain⟨X,hX⟩:∃X,X=x.t.ends s 0 i:=⟨_,rfl⟩
   have tZ:X.length<=513:=by rw[hX];exact Zb2 eC hw.fin.len hi
   rw[<-hX]at gC
   rw[gC,List.length_map]
   obtain⟨b0,o,ha,hp⟩:=ZlJ jY hx
   refine⟨_,hc.c2,_,hc.c0,Zaa rfl (Zaa rfl ⟨_,g10B,_,hc.c3,Zaa rfl ⟨b0,o,ha,⟨by simp[RowKit.intOf],by simp[RowKit.intOf,slN];omega⟩,_,by simp only[RowKit.intOf,Int.toNat_natCast,Nat.mul_one];exact hp,_,hc.c1,Zqe (ihs x gV i hi m hw) ⟨es,eD⟩ Zbf ?_⟩⟩)⟩
   rintro a nn c m2 bL ⟨a',c',hv,bG,dH⟩
   rw[<-hX]at hv bG
   obtain⟨rfl,rfl,rfl⟩:a=a'/\nn=X.length/\c=c':=by simpa using hv
   have dT:=hw.next bL dH
   have t5:=hc.mono (Zfs bL)
   refine⟨λxs css tvs m' q=>∃j:Nat,j<=X.length/\xs=[.int .i64 (j:Nat),.int .i64 (j:Nat)]/\(but m2 kb).le m'/\HasM m' kb Z root s/\q=X.length - j,⟨_,0,by omega,rfl,Zix _ _,dH,rfl⟩,?_⟩
   rintro y ak m3 al _ ⟨j,hj,cJ,dG,fU,rfl⟩
   simp only[List.cons.injEq,Value.int.injEq,true_and,and_true]at cJ
   obtain⟨rfl,rfl⟩:=cJ
   have oW:=dT.next dG fU
   have nT:=t5.mono dG
   obtain⟨es3,dY,_⟩:=fU
   refine Zab (λiX=>?_) (λcP=>?_)
   ·have bI:j < X.length:=by have:=of_decide_eq_true iX;omega
    obtain⟨z,hz⟩:∃z,X[j]?=some z:=⟨_,List.getElem?_eq_getElem bI⟩
    have iD:=ZhJ s x.t 0 i hi z (hX ▸ List.mem_of_getElem? hz)
    rcases((bG.mono (Zo6 dT.z.1)).mono dG)with h|⟨b,o2,h1,h2⟩
    ·have:X=[]:=by simpa[nsL]using h
     rw[this]at bI;simp at bI
    simp only[Int.toNat_natCast,Nat.mul_one,wr1 (show j<=1000000000000000 by omega)]
    refine⟨b,o2,h1,⟨by omega,by omega⟩,.int .i64 (z:Nat),h2 j _ (by rw[nsL,List.getElem?_map,hz];rfl),_,nT.c2,_,nT.c0,_,nT.c3,Zaa rfl ?_⟩
    simp only[RowKit.intOf,wr1 hd]
    refine Zqe (ih3 hk bF z iD.2 m3 oW) ⟨es3,dY⟩ Zbf ?_
    intro a2 n2 c2' m4 bZ hR
    refine⟨⟨by trivial,j,rfl,bI,ZiT (by rw[List.getElem?_map,hz];rfl) hR⟩,_,?_,j+1,by omega,rfl,mLt (Zfs dG) bZ,by obtain⟨_,_,_,_,h⟩:=hR;exact h,rfl⟩
    omega
   ·have:j=X.length:=by have:=of_decide_eq_false cP;omega
    subst this
    exact⟨rfl,es3,dY,by assumption⟩
 ·
  have hk:n.t.k=5:=by simpa[RowKit.intOf]using h5
  obtain⟨x,cJ,jL⟩:=oneSub (.inl hk)
  obtain⟨X,hX⟩:∃X,X=Zcp (hd0 s n.t.subs) n.t.mn n.t.mx d i:=⟨_,rfl⟩
  have gC:n.t.lists s d i=(X.map λj=>n.t.ends s (Zbe n.t.mn n.t.mx d) j)++(if(d:Int) ≥ n.t.mn then[[i]]else[]):=by
   unfold T.lists
   rw[if_neg (by omega),if_neg (by omega),if_neg (by omega),if_neg (by omega),if_neg (by omega),if_pos hk,<-hX]
  have u6:∀z∈X,Ziv n.t.mx d=true/\z<=s.length:=λz hz=>by
   rw[hX]at hz
   obtain⟨q1,q2,_⟩:=Zbb hz
   exact⟨q1,(Za6 s n.t.subs i hi z q2).2⟩
  have tZ:X.length<=513:=by
   rw[hX]
   unfold Zcp
   split
   ·have h1:=List.length_filter_le (λj=>decide (i < j)||decide ((d:Int) < n.t.mn)) (hd0 s n.t.subs i)
    have h2:(hd0 s n.t.subs i).length<=513:=by
     rw[jL]
     simp only[hd0]
     rw[<-Za9]
     exact Zb2 (hw.fin.good x (ZeZ hn (by rw[cJ];simp))) hw.fin.len hi
    omega
   ·simp
  refine⟨_,kL.c0,_,kL.c3,_,trivial,Zn3 n d m cX lS hk hd,λv m' css h=>by unfold Ret at h;rw[h];rfl,?_⟩
  rintro n1 b1 m1 bH iH
  simp only[Ret,Value.tuple.injEq,Array.mk.injEq,List.cons.injEq,Value.int.injEq,Value.bool.injEq,true_and,and_true]at iH
  obtain⟨rfl,rfl⟩:=iH
  have eF:=hw.le bH
  have oU:=hc.mono (Zo4 bH)
  have pP:=oU.mono (Zix _ _)
  obtain⟨es1,iZ,_⟩:=eF.has
  have dC:=ZpO fb kb Z root sa s sc n hn hk d i hd hi (λx hx=>ihs x hx i hi) m1 eF
  rw[<-hX]at dC
  refine⟨_,pP.c2,_,pP.c0,_,pP.c3,_,pP.c1,Zqe dC ⟨es1,iZ⟩ Zbf ?_⟩
  rintro a nn c m2 bL ⟨a',c',hv,bG,dH⟩
  obtain⟨rfl,rfl,rfl⟩:a=a'/\nn=X.length/\c=c':=by simpa using hv
  have dT:=eF.next bL dH
  have t5:=oU.mono (Zfs bL)
  rw[gC,List.length_append,List.length_map]
  refine⟨λxs css tvs m' q=>∃j:Nat,j<=X.length/\xs=[.int .i64 (j:Nat),.int .i64 (j:Nat)]/\(but m2 kb).le m'/\HasM m' kb Z root s/\q=X.length - j,⟨_,0,by omega,rfl,Zix _ _,dH,rfl⟩,?_⟩
  rintro y al m3 ap _ ⟨j,hj,nS,dG,fU,rfl⟩
  simp only[List.cons.injEq,Value.int.injEq,true_and,and_true]at nS
  obtain⟨rfl,rfl⟩:=nS
  have oW:=dT.next dG fU
  have nT:=t5.mono dG
  obtain⟨es3,dY,lN⟩:=fU
  refine Zab (λiX=>?_) (λcP=>?_)
  ·have bI:j < X.length:=by have:=of_decide_eq_true iX;omega
   obtain⟨z,hz⟩:∃z,X[j]?=some z:=⟨_,List.getElem?_eq_getElem bI⟩
   have yR:=List.mem_of_getElem? hz
   obtain⟨ro,qu⟩:=u6 z yR
   rcases((bG.mono (Zo6 dT.z.1)).mono dG)with h|⟨b,o2,h1,h2⟩
   ·have:X=[]:=by simpa[nsL]using h
    rw[this]at bI;simp at bI
   simp only[Int.toNat_natCast,Nat.mul_one,wr1 (show j<=1000000000000000 by omega)]
   refine⟨b,o2,h1,⟨by omega,by omega⟩,.int .i64 (z:Nat),h2 j _ (by rw[nsL,List.getElem?_map,hz];rfl),ZjY ro ⟨_,nT.c2,_,nT.c0,Zqe (ih5 hk z (hX ▸ yR) m3 oW) ⟨es3,dY⟩ Zbf ?_⟩⟩
   intro a2 n2 c2' m4 bZ hR
   refine⟨⟨by trivial,j,rfl,by omega,ZiT (by rw[List.getElem?_append_left (by simpa using bI),List.getElem?_map,hz];rfl) hR⟩,_,?_,j+1,by omega,rfl,mLt (Zfs dG) bZ,by obtain⟨_,_,_,_,h⟩:=hR;exact h,rfl⟩
   omega
  ·have:j=X.length:=by have:=of_decide_eq_false cP;omega
   subst this
   obtain⟨_,_,g5',_⟩:=ZiS (ZbL root oW.fm.rep n hn)
   refine⟨_,nT.c3,_,nT.c0,Zaa rfl (Zaa rfl ⟨_,g5',Zaa rfl (Zab (λhq=>⟨_,nT.c1,Zaa rfl λb2 eB=>⟨⟨by trivial,X.length,rfl,?_,ZlK ?_ ⟨es3,dY⟩⟩,?_,HasM.le ⟨es3,dY,lN⟩ (Mem.le_add eB _)⟩⟩) (λhq=>⟨?_,es3,dY,lN⟩))⟩)⟩
   ·have hq':(d:Int) ≥ n.t.mn:=of_decide_eq_true hq
    rw[if_pos hq'];simp
   ·have hq':(d:Int) ≥ n.t.mn:=of_decide_eq_true hq
    rw[if_pos hq',List.getElem?_append_right (by simp)];simp
   ·have hq':(d:Int) ≥ n.t.mn:=of_decide_eq_true hq
    rw[if_pos hq'];simp
   ·have hq':¬(d:Int) ≥ n.t.mn:=of_decide_eq_false hq
    rw[if_neg hq'];simp
 ·exfalso
  simp[RowKit.intOf]at h1 h2 h3 h4 h5 h6
  rcases ZgD hg with h|h|h|h|h|h <;> omega
theorem Zyg(a b c a' b' c':Nat):EqIs Try.prog 132 (plK a b c) (plK a' b' c') (decide (a=a'/\b=b'/\c=c')):=by
 have h:=Zwe a b c a' b' c'
 have e:((a:Int) == a'&&(b:Int) == b'&&(c:Int) == c')=decide (a=a'/\b=b'/\c=c'):=by
  rw[Bool.eq_iff_iff]
  simp only[Bool.and_eq_true,beq_iff_eq,decide_eq_true_eq]
  omega
 rw[e]at h;exact h
theorem Zwg(a b c:Nat):Instr.sameBits 10000 (plK a b c) (plK a b c)=true:=by
 rw[show(10000:Nat)=9998+1+1 from rfl]
 generalize (9998:Nat)=n
 simp[Instr.sameBits,plK]
theorem ZpP{B:Mem}{root:Nd}{s:List Nat}(ids:∀x∈root.all,∀y∈root.all,x.id=y.id->x=y){n:Nd}(hn:n∈root.all)(d i:Nat)(z:Value):∀{es:List (Value×Value)},Memo B root s es->
  ∃r,MapFind Try.prog 132 (plK n.id d i) es r/\∀v,r=some v->∃a c,v=.slice a (n.t.ends s d i).length c/\rowRd B a (nsL (n.t.ends s d i))
 | [],_=>⟨none,rfl,λv h=>by cases h⟩
 | e::es,hm=>by
  obtain⟨n',d',i',a,c,h1,rfl,h3⟩:=hm e (by simp)
  have he:=Zyg n.id d i n'.id d' i'
  by_cases hq:n.id=n'.id/\d=d'/\i=i'
  ·rw[decide_eq_true hq]at he
   obtain⟨q1,rfl,rfl⟩:=hq
   obtain rfl:=ids n hn n' h1 q1
   exact⟨_,.inl ⟨he,rfl⟩,λv h=>by cases h;exact⟨a,c,rfl,h3⟩⟩
  ·rw[decide_eq_false hq]at he
   obtain⟨r,h4,h5⟩:=ZpP ids hn d i z (es:=es) (λe he=>hm e (by simp[he]))
   exact⟨r,.inr ⟨he,h4⟩,h5⟩
theorem Zsz{B:Mem}{root:Nd}{s:List Nat}{n:Nd}(hn:n∈root.all)(d i:Nat){a:Option Addr}{c:Nat}(bG:rowRd B a (nsL (n.t.ends s d i))):∀{es:List (Value×Value)},Memo B root s es->
  ∃es',ZkR Try.prog 132 (plK n.id d i) (.slice a (n.t.ends s d i).length c) es es'/\Memo B root s es'
 | [],_=>⟨_,rfl,λe he=>by
   obtain rfl:e=_:=by simpa using he
   exact⟨n,d,i,a,c,hn,rfl,bG⟩⟩
 | e::es,hm=>by
  obtain⟨n',d',i',a',c',h1,rfl,h3⟩:=hm e (by simp)
  have he:=Zyg n.id d i n'.id d' i'
  by_cases hq:n.id=n'.id/\d=d'/\i=i'
  ·rw[decide_eq_true hq]at he
   obtain⟨q1,rfl,rfl⟩:=hq
   refine⟨_,.inl ⟨he,by rw[<-q1];exact Zwg _ _ _,rfl⟩,λe he=>?_⟩
   rcases List.mem_cons.1 he with rfl|he
   ·exact⟨n,d,i,a,c,hn,rfl,bG⟩
   ·exact hm e (by simp[he])
  ·rw[decide_eq_false hq]at he
   obtain⟨es',h4,h5⟩:=Zsz hn d i bG (c:=c) (es:=es) (λe he=>hm e (by simp[he]))
   refine⟨_,.inr ⟨he,es',h4,rfl⟩,λe he=>?_⟩
   rcases List.mem_cons.1 he with rfl|he
   ·exact hm _ (by simp)
   ·exact h5 e he
theorem Zt0{s:List Nat}{t:T}{d i:Nat}(h:t.right=true)(bV:∀x∈t.subs,x.right=true)(hs:s.length<=512)(hi:i<=s.length):∀l∈t.lists s d i,l.length<=1000000:=by
 have e0:∀x:T,x.right=true->(x.e0 s i).length<=1000000:=λx hx=>by
  rw[<-Za9]
  have:=Zb2 (d:=0) hx hs hi;omega
 have one:∀{l:List Nat} {x:Nat},l∈[[x]]->l.length<=1000000:=λ{l x} hl=>by
  obtain rfl:l=[x]:=by simpa using hl
  simp
 intro l hl
 unfold T.lists at hl
 split at hl
 ·exact one hl
 ·split at hl
  ·split at hl
   ·split at hl
    ·exact one hl
    ·simp at hl
   ·simp at hl
  ·split at hl
   ·obtain rfl:l=_:=by simpa using hl
    cases fK:t.subs with
    | nil=>simp[hd0]
    | cons x r=>simp only[hd0];exact e0 x (bV x (by rw[fK];simp))
   ·split at hl
    ·obtain⟨x,hx,rfl⟩:=List.mem_map.1 hl
     exact e0 x (bV x hx)
    ·split at hl
     ·split at hl
      ·exact one hl
      ·rename_i x hx
       obtain⟨j,hj,rfl⟩:=List.mem_map.1 hl
       have:=Zb2 (d:=d+1) h hs (ZaQ s x i hi j hj).2;omega
     ·split at hl
      ·rcases List.mem_append.1 hl with hl|hl
       ·obtain⟨j,hj,rfl⟩:=List.mem_map.1 hl
        obtain⟨_,h2,_⟩:=Zbb hj
        have:=Zb2 (d:=Zbe t.mn t.mx d) h hs (Za6 s t.subs i hi j h2).2;omega
       ·split at hl
        ·exact one hl
        ·simp at hl
      ·simp at hl
theorem Zt1(fb kb:Nat)(Z:Nat->Prop)(root:Nd)(sa:Option Addr)(s:List Nat)(sc:Nat)(n:Nd)(hn:n∈root.all)(d i:Nat)(hd:d<=1000000000000000)(hi:i<=s.length)(mC:n.t.k=3->d<=n.subs.length)
  (ihs:∀x∈n.subs,∀j,j<=s.length->ZmI fb kb Z root sa s sc x 0 j) (ih3:n.t.k=3->d < n.subs.length->∀j,j<=s.length->ZmI fb kb Z root sa s sc n (d+1) j)
  (ih5:n.t.k=5->∀j∈Zcp (hd0 s n.t.subs) n.t.mn n.t.mx d i,ZmI fb kb Z root sa s sc n (Zbe n.t.mn n.t.mx d) j):ZmI fb kb Z root sa s sc n d i:=by
 intro m hw
 have hg:=hw.fin.good n hn
 have cX:=ZbL root hw.fm.rep n hn
 obtain⟨g0,g1,g5,g6,g8,g9,g10⟩:=ZiS cX
 obtain⟨es,eD,cE⟩:=hw.has
 have t6:∀x∈n.t.subs,x.right=true:=λx hx=>by
  rw[<-(ZdN.1 cX).2.1.2]at hx
  obtain⟨y,hy,rfl⟩:=List.mem_map.1 hx
  exact hw.fin.good y (ZeZ hn hy)
 obtain⟨r,dA,eV⟩:=ZpP hw.fin.ids hn d i (.slice none 0 0) cE
 have wW:=Zu9 (d:=d) hg hi
 have jA:=Zb2 (d:=d) hg hw.fin.len hi
 apply Zfl
 unfold Zdt
 refine⟨_,g8,(n.id:Nat),rfl,λb9=>⟨_,hw.fm.memo,kb,es,_,_,rfl,eD,ZpM _ _ _,⟨r,dA,rfl,rfl⟩,Zab (λho=>?_) (λho=>⟨_,trivial,Zwf fb n.b d i m,?_,?_⟩)⟩⟩
 ·obtain⟨v,rfl⟩:=Option.isSome_iff_exists.1 ho
  obtain⟨a,c,hv,bG⟩:=eV v rfl
  exact⟨a,c,hv,bG,hw.has⟩
 ·rintro v m' css ⟨c0,c1,c2,c3,h,_⟩;rw[h];rfl
 rintro g fi ca m1 bH ⟨c0,c1,c2,c3,hv,⟨sF,oU,t5,nT⟩,rv,gA,iO,oO⟩
 obtain⟨rfl,rfl,rfl⟩:g=91/\fi=[]/\ca=[.pointer (some ⟨c0,0,none⟩),.pointer (some ⟨c1,0,none⟩),.pointer (some ⟨c2,0,none⟩),.pointer (some ⟨c3,0,none⟩)]:=by
  simpa using hv
 have eF:=hw.le bH
 have iZ:=bH.k _ _ eD
 refine⟨_,trivial,Zyd _ [] [.pointer (some ⟨c0,0,none⟩),.pointer (some ⟨c1,0,none⟩),.pointer (some ⟨c2,0,none⟩),.pointer (some ⟨c3,0,none⟩)] m1,?_,?_⟩
 ·rintro v m' css ⟨c,h,_⟩;rw[h];rfl
 rintro g fi ca m2 bL ⟨c,hv,uY,qU⟩
 obtain⟨rfl,rfl,rfl⟩:g=90/\fi=[]/\ca=[.pointer (some ⟨c,0,none⟩)]:=by
  simpa using hv
 have dT:=eF.le bL
 have rR:=bL.k _ _ iZ
 have ne:∀{x:Nat},m.k x=none->x≠kb:=λh e=>by subst e;rw[eD]at h;cases h
 have dB:Cap (but m1 kb) fb n d i c0 c1 c2 c3:=by
  have g:∀{x:Nat} {v:Value},m.k x=none->m1.reads x 0 [v]->but m1 kb x 0=some v:=λh hr=>by
   rw[Znh (ne h)];exact hr 0 _ rfl
  exact⟨g rv sF,g gA oU,g iO t5,g oO nT⟩
 have rS:∀m3:Mem,m2.le m3->IXY Try.prog 91 [] [.pointer (some ⟨c0,0,none⟩),.pointer (some ⟨c1,0,none⟩),.pointer (some ⟨c2,0,none⟩),.pointer (some ⟨c3,0,none⟩)] m3 (λb=>b=kb) (n.t.lists s d i).length (ZwD (n.t.lists s d i) kb) (λm'=>HasM m' kb Z root s):=λm3 bX=>
  ZtZ fb kb Z root sa s sc n hn d i hd hi mC ihs ih3 ih5 m3 (dT.le bX) c0 c1 c2 c3 (dB.mono (Zo4 (mLt bL bX)))
 have t7:=Zwd 91 [] [.pointer (some ⟨c0,0,none⟩),.pointer (some ⟨c1,0,none⟩),.pointer (some ⟨c2,0,none⟩),.pointer (some ⟨c3,0,none⟩)] c m2 kb (n.t.lists s d i) (by rw[<-wW];omega) (Zt0 hg t6 hw.fin.len hi) (λm'=>HasM m' kb Z root s) (λa b my h=>h.le my) ⟨es,rR⟩ uY rS
 have t8:=ZpL 90 [] [.pointer (some ⟨c,0,none⟩)] m2 kb Z dT.z (ddp (n.t.lists s d i).flatten) (by rw[<-wW];omega) (λm'=>HasM m' kb Z root s) (λa b my h=>h.le my) ⟨es,rR⟩ t7
 rw[<-wW]at t8
 refine Zqe t8 ⟨es,rR⟩ (λv m' css tvs ⟨a,c,h,_⟩=>by rw[h];rfl) ?_
 rintro a nn c' m3 bX ⟨a',c2',hv,bG,dH⟩
 obtain⟨rfl,rfl,rfl⟩:a=a'/\nn=(n.t.ends s d i).length/\c'=c2':=by simpa using hv
 have oW:=dT.next bX dH
 obtain⟨es3,dY,lN⟩:=dH
 obtain⟨es',iV,ua⟩:=Zsz hn d i bG (c:=c') lN
 refine⟨_,oW.fm.memo,kb,es3,es',rfl,dY,ZpM _ _ _,iV,Zni,a,c',rfl,bG,es',Mem.updK_same _ _ _,ua⟩
def ZA3(s:List Nat)(n:Nd)(d i:Nat):Nat:=if n.t.k=3 then n.subs.length - d else mR s.length n.t.mn n.t.mx d i
theorem Zwh(fb kb:Nat)(Z:Nat->Prop)(root:Nd)(sa:Option Addr)(s:List Nat)(sc:Nat)(lO:∀x∈root.all,x.t.right=true):∀(N:Nat)(n:Nd),SizeOf.sizeOf n < N->n∈root.all->∀d i,d<=1000000000000000->i<=s.length->(n.t.k=3->d<=n.subs.length)->n.subs.length<=1000000000000000->ZmI fb kb Z root sa s sc n d i:=by
 intro N
 induction N with
 | zero=>intro n h;omega
 | succ N ihN=>
  intro n hN hn d i hd hi mC jA
  have hg:=lO n hn
  have lS:=Zeo hg
  have ZzM:∀(K d i:Nat),ZA3 s n d i < K->d<=1000000000000000->i<=s.length->(n.t.k=3->d<=n.subs.length)->ZmI fb kb Z root sa s sc n d i:=by
   intro K
   induction K with
   | zero=>intro d i h;omega
   | succ K ihK=>
    intro d i hK hd hi mC
    intro m hw
    have few:∀x∈root.all,x.subs.length<=1000000000000000:=λx hx=>ZtY (ZbL root hw.fin.rep x hx)
    refine Zt1 fb kb Z root sa s sc n hn d i hd hi mC (λx hx j hj=>ihN x (by have:=ZzK hx;omega) (ZeZ hn hx) 0 j (by omega) hj (λ_=>Nat.zero_le _) (few x (ZeZ hn hx))) (λh3 bF j hj=>ihK (d+1) j ?_ (by omega) hj (λ_=>bF)) (λh5 j hj=>?_) m hw
    ·unfold ZA3 at hK ⊢
     rw[if_pos h3]at hK ⊢
     omega
    ·obtain⟨q1,q2,q3⟩:=Zbb hj
     obtain⟨q4,q5⟩:=Za6 s n.t.subs i hi j q2
     obtain⟨b1,b2,b3⟩:=lS h5
     have:=ZrY (len:=s.length) b1 (b3.imp id λh=>h.2.1) q1 ⟨q4,q5⟩ q3
     refine ihK _ j ?_ ?_ q5 (λh=>by omega)
     ·unfold ZA3 at hK ⊢
      rw[if_neg (by omega)]at hK ⊢
      omega
     ·unfold Zbe
      unfold Ziv at q1
      simp only[Bool.or_eq_true,beq_iff_eq,decide_eq_true_eq]at q1
      split <;> omega
  exact ZzM _ d i (Nat.lt_succ_self _) hd hi mC
theorem Zjw(fb kb:Nat)(Z:Nat->Prop)(root:Nd)(sa:Option Addr)(s:List Nat)(sc:Nat)(n:Nd)(hn:n∈root.all)(d i:Nat)(hd:d<=1000000000000000)(hi:i<=s.length)(mC:n.t.k=3->d<=n.subs.length):ZmI fb kb Z root sa s sc n d i:=λm hw=>
 Zwh fb kb Z root sa s sc hw.fin.good _ n (Nat.lt_succ_self _) hn d i hd hi mC (ZtY (ZbL root hw.fin.rep n hn)) m hw
theorem Zzq{P:Program}{g:FuncId}{args:Array Value}{m m0:Mem}{kb:Nat}{R0:RTY}{K:Bool->Mem->Prop}{E:Nat->Prop}(h:CXY P g args m (λb=>b=kb) [] [] R0)(hk:∃es,m.k kb=some es)(hE:E kb)(hf:∀(v:Value)(m':Mem) (css:List (List Value)) (tvs:List Value),R0 v m' css tvs->Shape.fits Shape.bool v=true)
  (k:∀b m',(but m kb).le m'->R0 (.bool b) m' [] []->K b m'):
  ∃(Y:Nat->Prop),∃(R:Value->Mem->List (List Value)->List Value->Prop),CXY P g args m Y [] [] R/\(∀(t:Tok),t∈[]->∀(b:Nat),t.blk=some b->Y b)/\
   (∀(b:Nat),Y b->(∃(t:Tok),t∈[]/\t.blk=some b)\/(Mem.free (but m0 kb) b/\Mem.k (but m0 kb) b=none)/\((∃(o:Nat),∃(v:Value),m b o=some v)\/∃(e:List (Value×Value)),Mem.k m b=some e)/\E b)/\
   (∀(v:Value)(m':Mem) (css:List (List Value)) (tvs:List Value),R v m' css tvs->Shape.fits Shape.bool v=true)/\
   ∀(b:Bool)(m':Mem),Mem.le (Mem.off m Y) m'->(NewM m m' λ(b:Nat)=>Y b\/Mem.free m b)->R (.bool b) m' [] []->K b m':=
 ⟨λb=>b=kb,R0,h,by simp,λb hb=>.inr ⟨by subst hb;exact⟨Zlm,Zni⟩,.inr (by subst hb;exact hk),by subst hb;exact hE⟩,hf,λb m' h1 _ h2=>k b m' h1 h2⟩
theorem Zzr{P:Program}{g:FuncId}{args:Array Value}{m m0:Mem}{kb:Nat}{R0:RTY}{K:Int->Mem->Prop}{E:Nat->Prop}(h:CXY P g args m (λb=>b=kb) [] [] R0)(hk:∃es,m.k kb=some es)(hE:E kb)(hf:∀(v:Value)(m':Mem) (css:List (List Value)) (tvs:List Value),R0 v m' css tvs->Shape.fits (Shape.int .i64) v=true)
  (k:∀b m',(but m kb).le m'->R0 (.int .i64 b) m' [] []->K b m'):
  ∃(Y:Nat->Prop),∃(R:Value->Mem->List (List Value)->List Value->Prop),CXY P g args m Y [] [] R/\(∀(t:Tok),t∈[]->∀(b:Nat),t.blk=some b->Y b)/\
   (∀(b:Nat),Y b->(∃(t:Tok),t∈[]/\t.blk=some b)\/(Mem.free (but m0 kb) b/\Mem.k (but m0 kb) b=none)/\((∃(o:Nat),∃(v:Value),m b o=some v)\/∃(e:List (Value×Value)),Mem.k m b=some e)/\E b)/\
   (∀(v:Value)(m':Mem) (css:List (List Value)) (tvs:List Value),R v m' css tvs->Shape.fits (Shape.int .i64) v=true)/\
   ∀(b:Int)(m':Mem),Mem.le (Mem.off m Y) m'->(NewM m m' λ(b:Nat)=>Y b\/Mem.free m b)->R (.int .i64 b) m' [] []->K b m':=
 ⟨λb=>b=kb,R0,h,by simp,λb hb=>.inr ⟨by subst hb;exact⟨Zlm,Zni⟩,.inr (by subst hb;exact hk),by subst hb;exact hE⟩,hf,λb m' h1 _ h2=>k b m' h1 h2⟩
theorem Zrg(fb kb:Nat)(Z:Nat->Prop)(root:Nd)(sa:Option Addr)(s:List Nat)(sc:Nat)(n:Nd)(hn:n∈root.all)(d j to:Nat)(hd:d<=1000000000000000)(hj:j<=s.length)(mC:n.t.k=3->d<=n.subs.length)(m:Mem)(hw:Wk m fb kb Z root sa s sc)(c0 c1 c2 c3:Nat)
  (g0:but m kb c0 0=some (.pointer (some ⟨fb,0,none⟩))) (g1:but m kb c1 0=some (.pointer (some ⟨n.b,0,none⟩))) (g2:but m kb c2 0=some (.int .i64 (d:Nat))) (g3:but m kb c3 0=some (.int .i64 (to:Nat))):
  CXY Try.prog 94 #[.int .i64 (j:Nat),.pointer (some ⟨c0,0,none⟩),.pointer (some ⟨c1,0,none⟩),.pointer (some ⟨c2,0,none⟩),.pointer (some ⟨c3,0,none⟩)] m (λb=>b=kb) [] [] (λv m' _ _=>v=.bool (decide (to∈n.t.ends s d j))/\HasM m' kb Z root s):=by
 obtain⟨es,eD,_⟩:=hw.has
 apply ZdT
 unfold ZcB
 refine⟨_,g0,_,g1,_,g2,_,g3,Zqe (Zjw fb kb Z root sa s sc n hn d j hd hj mC m hw) ⟨es,eD⟩ Zbf ?_⟩
 rintro a nn c m1 bH ⟨a',c',hv,bG,dH⟩
 obtain⟨rfl,rfl,rfl⟩:a=a'/\nn=(n.t.ends s d j).length/\c=c':=by simpa using hv
 refine⟨_,trivial,Zen _ a c to m1 (bG.mono (Mem.off_le _ _)) ?_,λv m' css h=>by unfold Ret at h;rw[h];rfl,?_⟩
 ·have:=Zb2 (d:=d) (hw.fin.good n hn) hw.fin.len hj;omega
 rintro b m2 bL hR
 exact⟨hR,dH.le bL⟩
theorem Zyh{α:Type}{p:α->Bool}{l:List α}{j:Nat}{x:α}(h:l[j]?=some x)(fL:∀y∈l.take j,p y=false)(hx:p x=true):l.find? p=some x:=by
 have e:l=l.take (j+1)++l.drop (j+1):=(List.take_append_drop _ _).symm
 rw[Zcf h]at e
 rw[e,List.append_assoc,List.find?_append,List.find?_eq_none.2 (λy hy=>by simp[fL y hy])]
 simp[hx]
theorem ZlL(g:Nat)(fi ca:List Value)(X:List Nat)(p:Nat->Bool)(a:Option Addr)(c:Nat)(m:Mem)(kb:Nat)(hX:X.length<=1000000)(RI:Mem->Prop)(AL:RI m)(hk:∀m',RI m'->∃es,m'.k kb=some es)(bG:rowRd (but m kb) a (nsL X))
  (AM:∀m',(but m kb).le m'->RI m'->∀x∈X,CXY Try.prog g ((fi++[Value.int .i64 (x:Nat)])++ca).toArray m' (λb=>b=kb) [] [] (λv m' _ _=>v=.bool (p x)/\RI m')):
  CXY Try.prog 93 #[.slice a X.length c,.func (.func g) fi.toArray ca.toArray] m (λb=>b=kb) [] [] (λv m' _ _=>((∃(i x:Nat),v=.int .i64 (i:Nat)/\X[i]?=some x/\X.find? p=some x)\/(v=.int .i64 (-1)/\X.find? p=none))/\RI m'):=by
 apply Zb9
 unfold Zbp
 refine⟨λxs css tvs m' q=>∃j:Nat,j<=X.length/\xs=[.int .i64 (j:Nat)]/\(but m kb).le m'/\RI m'/\(∀y∈X.take j,p y=false)/\q=X.length - j,⟨_,0,by omega,rfl,Zix _ _,AL,by simp,rfl⟩,?_⟩
 rintro y m3 q _ ⟨j,hj,cJ,cF,hR,fL,rfl⟩
 obtain rfl:y=j:=by simpa using cJ
 refine Zab (λbF=>?_) (λcP=>?_)
 ·have bI:j < X.length:=by have:=of_decide_eq_true bF;omega
  obtain⟨x,hx⟩:∃x,X[j]?=some x:=⟨_,List.getElem?_eq_getElem bI⟩
  have gV:=List.mem_of_getElem? hx
  rcases bG.mono cF with h|⟨b,o,h1,h2⟩
  ·have:X=[]:=by simpa[nsL]using h
   rw[this]at bI;simp at bI
  simp only[Int.toNat_natCast,Nat.mul_one,wr1 (show j<=1000000000000000 by omega)]
  refine⟨b,o,h1,⟨by omega,by omega⟩,.int .i64 (x:Nat),h2 j _ (by rw[nsL,List.getElem?_map,hx];rfl),Zzq (AM m3 cF hR x gV) (hk m3 hR) trivial (λv m' css tvs h=>by rw[h.1];rfl) ?_⟩
  rintro b2 m4 bZ ⟨hb,sK⟩
  obtain rfl:b2=p x:=by simpa using hb
  refine Zab (λhp=>⟨.inl ⟨j,x,rfl,hx,Zyh hx fL hp⟩,sK⟩) (λhp=>⟨_,?_,j+1,by omega,rfl,mLt (Zfs cF) bZ,sK,?_,rfl⟩)
  ·omega
  ·rw[Zcf hx]
   intro y hy
   rcases List.mem_append.1 hy with hy|hy
   ·exact fL y hy
   ·obtain rfl:y=x:=by simpa using hy
    exact hp
 ·have:j=X.length:=by have:=of_decide_eq_false cP;omega
  subst this
  rw[List.take_length]at fL
  exact⟨.inr ⟨rfl,List.find?_eq_none.2 λy hy=>by simp[fL y hy]⟩,hR⟩
def Zzs(s:List Nat)(t:T)(d to:Nat)(X:List Nat):Option Nat:=X.find? λj=>decide (to∈t.ends s d j)
def Zz2:Option Nat->Int
 | some x=>(x:Int)
 | none=>-1
theorem ZpQ(fb kb:Nat)(Z:Nat->Prop)(root:Nd)(sa:Option Addr)(s:List Nat)(sc:Nat)(n:Nd)(hn:n∈root.all)(d to:Nat)(hd:d<=1000000000000000)(mC:n.t.k=3->d<=n.subs.length)(X:List Nat)(hX:∀j∈X,j<=s.length)(tZ:X.length<=1000000)(a:Option Addr)(c:Nat)(m:Mem)(hw:Wk m fb kb Z root sa s sc)(bG:rowRd (m.off Z) a (nsL X)):
  CXY Try.prog 74 #[.pointer (some ⟨fb,0,none⟩),.slice a X.length c,.pointer (some ⟨n.b,0,none⟩),.int .i64 (d:Nat),.int .i64 (to:Nat)] m (λb=>b=kb) [] [] (λv m' _ _=>v=.int .i64 (Zz2 (Zzs s n.t d to X))/\HasM m' kb Z root s):=by
 obtain⟨es,eD,cE⟩:=hw.has
 apply ZeO
 unfold Zc7
 intro b0 m1 bH wX Al _ rv b1 m2 bL eQ kP _ gA b2 m3 bX eB mB _ iO b3 m4 bZ kM sJ _ oO
 have l14:=mLt bL (mLt bX bZ)
 have l24:=mLt bX bZ
 have l04:=mLt bH l14
 have n0:b0≠kb:=λe=>by subst e;rw[eD]at rv;cases rv
 have n1:b1≠kb:=λe=>by subst e;rw[bH.k _ _ eD]at gA;cases gA
 have n2:b2≠kb:=λe=>by subst e;rw[(mLt bH bL).k _ _ eD]at iO;cases iO
 have n3:b3≠kb:=λe=>by subst e;rw[(mLt bH (mLt bL bX)).k _ _ eD]at oO;cases oO
 have u0:=hw.le l04
 have cell:∀{b:Nat} {v:Value},b≠kb->m4.reads b 0 [v]->but m4 kb b 0=some v:=λh1 h2=>by rw[Znh h1];exact h2 0 _ rfl
 have g0:=cell n0 (wX.mono l14)
 have g1:=cell n1 (eQ.mono l24)
 have g2:=cell n2 (eB.mono bZ)
 have g3:=cell n3 kM
 have cO:rowRd (but m4 kb) a (nsL X):=(bG.mono (Zgk l04)).mono (Zo6 hw.z.1)
 refine Zzr (ZlL 94 [] [.pointer (some ⟨b0,0,none⟩),.pointer (some ⟨b1,0,none⟩),.pointer (some ⟨b2,0,none⟩),.pointer (some ⟨b3,0,none⟩)] X (λj=>decide (to∈n.t.ends s d j)) a c m4 kb tZ (λm'=>HasM m' kb Z root s) u0.has (λm' ⟨es,h,_⟩=>⟨es,h⟩) cO ?_) ⟨es,l04.k _ _ eD⟩ ⟨n3,n2,n1,n0,trivial⟩ ?_ ?_
 ·intro m5 c9 hh x hx
  have sL:=Zfs c9
  exact Zrg fb kb Z root sa s sc n hn d x to hd (hX x hx) mC m5 (u0.next c9 hh) b0 b1 b2 b3 (sL.c _ _ _ g0) (sL.c _ _ _ g1) (sL.c _ _ _ g2) (sL.c _ _ _ g3)
 ·rintro v m' css tvs ⟨⟨i,x,h,_⟩|⟨h,_⟩,_⟩ <;> (rw[h];rfl)
 rintro z m5 c9 ⟨h,hh⟩
 rcases h with⟨i,x,h,hx,fT⟩|⟨h,fT⟩
 ·obtain rfl:z=i:=by simpa using h
  refine Zi3 (by simp) ?_
  have bF:=(List.getElem?_eq_some_iff.1 hx).1
  rcases cO.mono c9 with h|⟨b,o,h1,h2⟩
  ·have:X=[]:=by simpa[nsL]using h
   rw[this]at bF;simp at bF
  refine⟨b,o,h1,⟨by omega,by omega⟩,.int .i64 (x:Nat),by simp only[Int.toNat_natCast,Nat.mul_one];exact h2 i _ (by rw[nsL,List.getElem?_map,hx];rfl),?_,hh⟩
  unfold Zzs;rw[fT];rfl
 ·obtain rfl:z=-1:=by simpa using h
  refine ZjY (by decide) ⟨?_,hh⟩
  unfold Zzs;rw[fT];rfl
theorem Zqf{P:Program}{g:FuncId}{args:Array Value}{m m0:Mem}{Y Y0:Nat->Prop}{R0:RTY}{sh:Shape}{E:Nat->Prop}{Kf:(Nat->Prop)->RTY->Prop}(h:CXY P g args m Y [] [] R0)(hY:∀b,Y b->Y0 b/\((∃(o:Nat),∃(v:Value),m b o=some v)\/∃(e:List (Value×Value)),Mem.k m b=some e)/\E b)(hf:∀(v:Value)(m':Mem) (css:List (List Value)) (tvs:List Value),R0 v m' css tvs->Shape.fits sh v=true)(k:Kf Y R0):
  ∃(Y:Nat->Prop),∃(R:Value->Mem->List (List Value)->List Value->Prop),CXY P g args m Y [] [] R/\(∀(t:Tok),t∈[]->∀(b:Nat),t.blk=some b->Y b)/\
   (∀(b:Nat),Y b->(∃(t:Tok),t∈[]/\t.blk=some b)\/(Mem.free (m0.off Y0) b/\Mem.k (m0.off Y0) b=none)/\((∃(o:Nat),∃(v:Value),m b o=some v)\/∃(e:List (Value×Value)),Mem.k m b=some e)/\E b)/\
   (∀(v:Value)(m':Mem) (css:List (List Value)) (tvs:List Value),R v m' css tvs->Shape.fits sh v=true)/\Kf Y R:=
 ⟨Y,R0,h,by simp,λb hb=>.inr ⟨⟨Mem.off_free (hY b hb).1,Mem.off_kn (hY b hb).1⟩,(hY b hb).2⟩,hf,k⟩
structure St (fb kb:Nat)(root:Nd)(sa:Option Addr)(s:List Nat)(sc:Nat)(pa:Option Addr)(pc np:Nat)(m:Mem)(P:PL):Prop where
 wk:Wk m fb kb (Zp kb pa) root sa s sc
 pt:PtAt m pa P
 len:P.length=np
 parts:(m.off (Zp kb pa)) fb 2=some (.slice pa np pc)
 nk:∀b,pa=some ⟨b,0,none⟩->b≠kb
theorem St.step{fb kb:Nat}{root:Nd}{sa:Option Addr}{s:List Nat}{sc:Nat}{pa:Option Addr}{pc np:Nat}{m m':Mem}{P:PL}(h:St fb kb root sa s sc pa pc np m P)(hm:(but m kb).le m')(hh:HasM m' kb (Zp kb pa) root s):St fb kb root sa s sc pa pc np m' P:=
 ⟨h.wk.next hm hh,(h.pt.but h.nk).mono hm,h.len,(ZuE h.wk.z.1 hm).c _ _ _ h.parts,h.nk⟩
theorem St.le{fb kb:Nat}{root:Nd}{sa:Option Addr}{s:List Nat}{sc:Nat}{pa:Option Addr}{pc np:Nat}{m m':Mem}{P:PL}(h:St fb kb root sa s sc pa pc np m P)(hm:m.le m'):St fb kb root sa s sc pa pc np m' P:=
 h.step (mLt (Zix _ _) hm) (h.wk.has.le hm)
theorem Zwi{m':Mem}{kb:Nat}{pa:Option Addr}{P':PL}(hp:PtAt m' pa P'):ZOk m' kb (Zp kb pa):=⟨.inl rfl,λb hb=>by
 rcases hb with hb|hb
 ·exact .inl hb
 rcases hp with⟨_,h⟩|⟨b',h1,h2,h3⟩
 ·rw[h]at hb;cases hb
 ·rw[h1]at hb;cases hb
  cases P' with
  | nil=>exact absurd rfl h3
  | cons p l=>exact .inr ⟨_,(h2 0 p rfl).1⟩⟩
theorem St.walk{fb kb:Nat}{root:Nd}{sa:Option Addr}{s:List Nat}{sc:Nat}{pa:Option Addr}{pc np:Nat}{m m':Mem}{P P':PL}(h:St fb kb root sa s sc pa pc np m P)(hm:(m.off (Zp kb pa)).le m')(hh:HasM m' kb (Zp kb pa) root s)(hp:PtAt m' pa P')(hl:P'.length=P.length):St fb kb root sa s sc pa pc np m' P':=
 ⟨⟨h.wk.fin.mono (Zo7 hm),hh,Zwi hp⟩,hp,hl.trans h.len,(Zo7 hm).c _ _ _ h.parts,h.nk⟩
theorem St.upd{fb kb:Nat}{root:Nd}{sa:Option Addr}{s:List Nat}{sc:Nat}{pa:Option Addr}{pc np:Nat}{m:Mem}{P:PL}(h:St fb kb root sa s sc pa pc np m P){b g:Nat}{x y:Int}(hb:pa=some ⟨b,0,none⟩)(hg:g < P.length):St fb kb root sa s sc pa pc np (m.upd b (0+g*2) [.int .i64 x,.int .i64 y]) (P.set g (x,y)):=by
 have hp:=h.pt.upd hb hg (x:=x) (y:=y)
 have rT:(m.off (Zp kb pa)).le ((m.upd b (0+g*2) [.int .i64 x,.int .i64 y]).off (Zp kb pa)):=ZxA (.inr hb)
 obtain⟨es,h1,h2⟩:=h.wk.has
 exact⟨⟨h.wk.fin.mono rT,⟨es,h1,h2.mono rT⟩,Zwi hp⟩,hp,by simp[h.len],rT.c _ _ _ h.parts,h.nk⟩
theorem St.zin{fb kb:Nat}{root:Nd}{sa:Option Addr}{s:List Nat}{sc:Nat}{pa:Option Addr}{pc np:Nat}{m:Mem}{P:PL}(h:St fb kb root sa s sc pa pc np m P):∀b,Zp kb pa b->Zp kb pa b/\((∃(o:Nat),∃(v:Value),m b o=some v)\/∃(e:List (Value×Value)),Mem.k m b=some e)/\True:=λb hb=>by
 refine⟨hb,?_,trivial⟩
 rcases h.wk.z.2 b hb with rfl|⟨v,hv⟩
 ·obtain⟨es,h1,_⟩:=h.wk.has
  exact .inr ⟨es,h1⟩
 ·exact .inl ⟨0,v,hv⟩
theorem St.kin{fb kb:Nat}{root:Nd}{sa:Option Addr}{s:List Nat}{sc:Nat}{pa:Option Addr}{pc np:Nat}{m:Mem}{P:PL}(h:St fb kb root sa s sc pa pc np m P):∀b,b=kb->Zp kb pa b/\((∃(o:Nat),∃(v:Value),m b o=some v)\/∃(e:List (Value×Value)),Mem.k m b=some e)/\True:=λb hb=>h.zin b (.inl hb)
def ZzV(kb:Nat)(pa:Option Addr)(root:Nd)(s:List Nat)(Q:PL×Nat):RTY:=λv m' _ _=>v=.int .i64 (Q.2:Nat)/\HasM m' kb (Zp kb pa) root s/\PtAt m' pa Q.1
theorem Zep{kb:Nat}{pa:Option Addr}{root:Nd}{s:List Nat}{Q:PL×Nat}:∀(v:Value)(m':Mem) (css:List (List Value)) (tvs:List Value),ZzV kb pa root s Q v m' css tvs->Shape.fits (Shape.int .i64) v=true:=λv _ _ _ ⟨h,_⟩=>by rw[h];rfl
def ZyS(fb kb:Nat)(root:Nd)(sa:Option Addr)(s:List Nat)(sc:Nat)(pa:Option Addr)(pc np:Nat)(x:Nd):Prop:=
 ∀g,x.num g->g+x.t.ngr<=np->∀i to,i<=s.length->to∈x.t.e0 s i->∀m P,St fb kb root sa s sc pa pc np m P->
  CXY Try.prog 46 #[.pointer (some ⟨fb,0,none⟩),.pointer (some ⟨x.b,0,none⟩),.int .i64 (i:Nat),.int .i64 (to:Nat)] m (Zp kb pa) [] [] (ZzV kb pa root s (x.t.wk s g i to P))
theorem ZmJ{Q:Option Nat}{kb:Nat}{Z:Nat->Prop}{root:Nd}{s:List Nat}:∀(v:Value)(m':Mem) (css:List (List Value)) (tvs:List Value),(v=.int .i64 (Zz2 Q)/\HasM m' kb Z root s)->Shape.fits (Shape.int .i64) v=true:=λv _ _ _ ⟨h,_⟩=>by rw[h];rfl
theorem ZAp(fb kb:Nat)(root:Nd)(sa:Option Addr)(s:List Nat)(sc:Nat)(pa:Option Addr)(pc np:Nat)(n:Nd)(hn:n∈root.all)(ih:∀x∈n.subs,ZyS fb kb root sa s sc pa pc np x):ZyS fb kb root sa s sc pa pc np n:=by
 intro g pQ oV i to hi jW m P cW
 have hw:=cW.wk
 have hg:=hw.fin.good n hn
 have lS:=Zeo hg
 have cX:=ZbL root hw.fm.rep n hn
 obtain⟨g0,g1,g5,g6,g8,g9,g10⟩:=ZiS cX
 have bM:=ZtX cX
 have jA:=ZtY cX
 rw[Zxz]at pQ
 obtain⟨wY,dZ⟩:=pQ
 rw[Zxw]at oV
 have ends0:∀x∈n.subs,∀j,j<=s.length->ZmI fb kb (Zp kb pa) root sa s sc x 0 j:=λx hx j hj=>Zjw fb kb (Zp kb pa) root sa s sc x (ZeZ hn hx) 0 j (by omega) hj (λ_=>Nat.zero_le _)
 have oneSub:n.t.k=5\/n.t.k=6->∃x,n.subs=[x]/\n.t.subs=[x.t]:=λh=>by
  obtain⟨x0,gX⟩:∃x,n.t.subs=[x]:=by
   rcases ZgD hg with h'|h'|h'|h'|h'|h' <;> first|omega|exact h'.2.1|exact h'.2
  have hl:=bM
  rw[gX]at hl
  match bV:n.subs,hl with
  | [x],_=>
   have:=ZzT cX (j:=0) (x:=x) (by rw[bV];rfl)
   rw[gX]at this
   simp at this
   exact⟨x,rfl,by rw[gX,this]⟩
 obtain⟨Q,hQ⟩:∃Q,Q=n.t.wk s g i to P:=⟨_,rfl⟩
 rw[<-hQ]
 rw[Zxx]at hQ
 apply Zfj
 unfold Zds
 refine⟨_,g0,Zaa rfl (Zab (λh6=>?_) (λh6=>Zaa rfl (Zab (λh4=>?_) (λh4=>Zaa rfl (Zab (λh3=>?_) (λh3=>Zaa rfl (Zab (λh5=>?_) (λh5=>?_))))))))⟩
 ·
  have hk:n.t.k=6:=by simpa[RowKit.intOf]using h6
  obtain⟨x,cJ,jL⟩:=oneSub (.inr hk)
  have gV:x∈n.subs:=by rw[cJ];simp
  have jI:=wY hk
  rw[if_pos hk,jL]at hQ
  rw[if_pos hk,jL]at oV
  rw[if_pos hk,cJ]at dZ
  have dZ:x.num (g+1):=dZ.1
  have jW:to∈x.t.e0 s i:=by
   rw[<-Za9]at jW
   unfold T.ends at jW
   rw[if_neg (by omega),if_neg (by omega)]at jW
   have e:n.t.e0 s i=ddp (hd0 s n.t.subs i):=by
    cases hT:n.t with
    | node k s0 s1 s2 s3 mn mx a c l=>
     rw[hT]at hk
     have hk:k=6:=hk
     subst hk
     simp[T.e0,T.subs]
   rw[e,Zcv,jL]at jW
   simpa[hd0]using jW
  have u9:g < P.length:=by rw[cW.len];omega
  obtain⟨pb,s6,cM⟩:∃b,pa=some ⟨b,0,none⟩/\∀q p,P[q]?=some p->m b (q*2)=some (.int .i64 p.1)/\m b (q*2+1)=some (.int .i64 p.2):=by
   rcases cW.pt with⟨h,_⟩|⟨b,h1,h2,_⟩
   ·rw[h]at u9;simp at u9
   ·exact⟨b,h1,h2⟩
  have AN:=(Mem.off_le _ _).c _ _ _ cW.parts
  have rU:=cW.upd s6 u9 (x:=(i:Int)) (y:=(to:Int))
  have qG:=ZbL root rU.wk.fm.rep n hn
  obtain⟨_,_,_,_,_,_,g10'⟩:=ZiS qG
  obtain⟨b0,o,ha,hp⟩:=ZlJ qG (j:=0) (x:=x) (by rw[cJ];rfl)
  refine⟨_,AN,_,g9,Zaa rfl (Zaa rfl ⟨pb,0,s6,⟨by simp[RowKit.intOf],?_⟩,?_,Mem.off_free (.inr s6),rfl,?_⟩)⟩
  ·simp only[RowKit.intOf,slN,jI];have:=cW.len;omega
  ·obtain⟨p,fW⟩:∃p,P[g]?=some p:=⟨_,List.getElem?_eq_getElem u9⟩
   refine⟨[.int .i64 p.1,.int .i64 p.2],rfl,?_⟩
   obtain⟨h1,h2⟩:=cM g p fW
   simp only[RowKit.intOf,Int.toNat_natCast,jI,Nat.zero_add]
   intro j v hj
   have bF:j < 2:=(List.getElem?_eq_some_iff.1 hj).1
   have:j=0\/j=1:=by omega
   rcases this with rfl|rfl <;> (cases hj;assumption)
  ·simp only[RowKit.intOf,Int.toNat_natCast,jI]
   refine⟨_,g10',Zaa rfl ⟨b0,o,ha,⟨by omega,by simp[slN,cJ]⟩,_,hp,Zqf (ih x gV (g+1) dZ (by rw[ZdO,ZdO]at oV;omega) i to hi jW _ _ rU) rU.zin Zep ?_⟩⟩
   rintro z m3 bX _ ⟨_,hh,jB⟩
   refine⟨by rw[hQ];rfl,hh,?_⟩
   rw[hQ];exact jB
 ·
  have hk:n.t.k=4:=by simpa[RowKit.intOf]using h4
  rw[if_neg (by omega),if_pos hk]at hQ
  rw[if_neg (by omega),Nat.zero_add]at oV
  rw[if_neg (by omega),Nat.add_zero]at dZ
  refine⟨_,g10,Zaa rfl ⟨λxs css tvs m' q=>∃(j gj:Nat),j<=n.subs.length/\xs=[.int .i64 (j:Nat)]/\St fb kb root sa s sc pa pc np m' P/\Q=(Zjp s (n.t.subs.drop j) gj i to P,0)/\Zxy (n.subs.drop j) gj/\gj+ZdO (n.t.subs.drop j)<=np/\q=n.subs.length - j,⟨_,0,g,by omega,rfl,cW,hQ,dZ,oV,rfl⟩,?_⟩⟩
  rintro y m3 q _ ⟨j,gj,hj,cJ,dU,fG,nU,ub,rfl⟩
  obtain rfl:y=j:=by simpa using cJ
  refine Zab (λbF=>?_) (λcP=>?_)
  ·have bI:j < n.subs.length:=by have:=of_decide_eq_true bF;simp only[slN]at this;omega
   obtain⟨x,hx⟩:∃x,n.subs[j]?=some x:=⟨_,List.getElem?_eq_getElem bI⟩
   have gV:=List.mem_of_getElem? hx
   have eC:x.t.right=true:=hw.fin.good x (ZeZ hn gV)
   have jL:=ZzT cX hx
   rw[Ziu jL]at fG ub
   obtain⟨rI,nV⟩:=Zr4 nU hx
   rw[ZdO]at ub
   have gK:=ZbL root dU.wk.fm.rep n hn
   obtain⟨b0,o,ha,hp⟩:=ZlJ gK hx
   simp only[Int.toNat_natCast,Nat.mul_one,wr1 (show j<=1000000000000000 by omega)]
   refine Zaa rfl ⟨b0,o,ha,⟨by omega,by simp only[slN];omega⟩,_,hp,Zqf (ends0 x gV i hi m3 dU.wk) dU.kin Zbf ?_⟩
   rintro a nn c m4 bZ _ ⟨a',c',hv,bG,dH⟩
   obtain⟨rfl,rfl,rfl⟩:a=a'/\nn=(x.t.ends s 0 i).length/\c=c':=by simpa using hv
   have eK:=dU.step bZ dH
   refine⟨_,trivial,Zen _ a c to m4 (bG.mono (Mem.off_le _ _)) (by have:=Zb2 (d:=0) eC hw.fin.len hi;omega),λv m' css h=>by unfold Ret at h;rw[h];rfl,?_⟩
   rintro b m5 c9 hR
   obtain rfl:b=decide (to∈x.t.ends s 0 i):=by simpa[Ret]using hR
   have gM:=eK.le c9
   rw[Za9]
   simp only[Zjp]at fG
   refine Zab (λeL=>?_) (λeL=>⟨_,?_,j+1,gj+x.t.ngr,by omega,rfl,gM,?_,nV,by omega,rfl⟩)
   ·have uc:=of_decide_eq_true eL
    rw[if_pos uc]at fG
    refine Zqf (ih x gV gj rI (by omega) i to hi uc m5 P gM) gM.zin Zep ?_
    rintro z m6 fF _ ⟨_,hh,jB⟩
    refine⟨by rw[fG];rfl,hh,?_⟩
    rw[fG];exact jB
   ·omega
   ·rw[if_neg (of_decide_eq_false eL)]at fG
    exact fG
  ·have:j=n.subs.length:=by have:=of_decide_eq_false cP;simp only[slN]at this;omega
   subst this
   rw[List.drop_eq_nil_of_le (by omega)]at fG
   simp only[Zjp]at fG
   refine⟨by rw[fG];rfl,dU.wk.has,?_⟩
   rw[fG];exact dU.pt
 ·
  have hk:n.t.k=3:=by simpa[RowKit.intOf]using h3
  rw[if_neg (by omega),if_neg (by omega),if_pos hk]at hQ
  rw[if_neg (by omega),Nat.zero_add]at oV
  rw[if_neg (by omega),Nat.add_zero]at dZ
  have hE:∀d j,n.t.ends s d j=Zhd (e0s s (n.t.subs.drop d)) j:=λd j=>by
   unfold T.ends
   rw[if_pos hk,ZrX,List.map_drop]
  rw[<-Za9,hE]at jW
  refine⟨_,g10,Zaa rfl ⟨λxs css tvs m' q=>∃(j gj p:Nat)(P':PL),j<=n.subs.length/\xs=[.int .i64 (p:Nat),.int .i64 (j:Nat)]/\p<=s.length/\St fb kb root sa s sc pa pc np m' P'/\Q=(Zjq s (n.t.subs.drop j) gj p to P',0)/\to∈Zhd (e0s s (n.t.subs.drop j)) p/\Zxy (n.subs.drop j) gj/\gj+ZdO (n.t.subs.drop j)<=np/\q=n.subs.length - j,⟨_,0,g,i,P,by omega,rfl,hi,cW,hQ,jW,dZ,oV,rfl⟩,?_⟩⟩
  rintro p' y m3 q _ ⟨j,gj,p,P',hj,cJ,hp',dU,fG,rV,nU,ub,rfl⟩
  simp only[List.cons.injEq,Value.int.injEq,true_and,and_true]at cJ
  obtain⟨rfl,rfl⟩:=cJ
  refine Zab (λbF=>?_) (λcP=>?_)
  ·have bI:j < n.subs.length:=by have:=of_decide_eq_true bF;simp only[slN]at this;omega
   obtain⟨x,hx⟩:∃x,n.subs[j]?=some x:=⟨_,List.getElem?_eq_getElem bI⟩
   have gV:=List.mem_of_getElem? hx
   have eC:x.t.right=true:=hw.fin.good x (ZeZ hn gV)
   have jL:=ZzT cX hx
   rw[Ziu jL]at fG ub rV
   obtain⟨rI,nV⟩:=Zr4 nU hx
   rw[ZdO]at ub
   rw[e0s,Zlo]at rV
   simp only[Zjq]at fG
   have gK:=ZbL root dU.wk.fm.rep n hn
   obtain⟨b0,o,ha,hp⟩:=ZlJ gK hx
   simp only[Int.toNat_natCast,Nat.mul_one,wr1 (show j<=1000000000000000 by omega)]
   refine Zaa rfl ⟨b0,o,ha,⟨by omega,by simp only[slN];omega⟩,_,hp,Zqf (ends0 x gV p hp' m3 dU.wk) dU.kin Zbf ?_⟩
   rintro a nn c m4 bZ _ ⟨a',c',hv,bG,dH⟩
   obtain⟨rfl,rfl,rfl⟩:a=a'/\nn=(x.t.ends s 0 p).length/\c=c':=by simpa using hv
   have eK:=dU.step bZ dH
   refine Zqf (ZpQ fb kb (Zp kb pa) root sa s sc n hn (j+1) to (by omega) (λ_=>by omega) (x.t.ends s 0 p) (λj hj=>(ZhJ s x.t 0 p hp' j hj).2) (by have:=Zb2 (d:=0) eC hw.fin.len hp';omega) a c m4 eK.wk bG) eK.kin ZmJ ?_
   rintro z m5 c9 _ ⟨hz,ud⟩
   have gM:=eK.step c9 ud
   have wZ:Zzs s n.t (j+1) to (x.t.ends s 0 p)=(x.t.e0 s p).find? (λj'=>decide (to∈Zhd (e0s s (n.t.subs.drop (j+1))) j')):=by
    unfold Zzs
    rw[Za9]
    simp only[hE]
   rw[wZ]at hz
   cases gB:(x.t.e0 s p).find? (λj'=>decide (to∈Zhd (e0s s (n.t.subs.drop (j+1))) j'))with
   | none=>
    exfalso
    obtain⟨w,eF,dT⟩:=rV
    have:=List.find?_eq_none.1 gB w eF
    simp at this
    exact this dT
   | some w=>
    rw[gB]at hz fG
    obtain rfl:z=(w:Int):=by simpa[Zz2]using hz
    have vb:=List.mem_of_find?_eq_some gB
    have AO:to∈Zhd (e0s s (n.t.subs.drop (j+1))) w:=by have:=List.find?_some gB;simpa using this
    have ve:=(ZaQ s x.t p hp' w vb).2
    refine Zqf (ih x gV gj rI (by omega) p w hp' vb m5 P' gM) gM.zin Zep ?_
    rintro z m6 fF _ ⟨_,hh,jB⟩
    refine⟨_,?_,j+1,gj+x.t.ngr,w,_,by omega,rfl,ve,gM.walk fF hh jB (Zln _ _ _ _ _ _),fG,AO,nV,by omega,rfl⟩
    omega
  ·have:j=n.subs.length:=by have:=of_decide_eq_false cP;simp only[slN]at this;omega
   subst this
   rw[List.drop_eq_nil_of_le (by omega)]at fG
   simp only[Zjq]at fG
   refine⟨by rw[fG];rfl,dU.wk.has,?_⟩
   rw[fG];exact dU.pt
 ·
  have hk:n.t.k=5:=by simpa[RowKit.intOf]using h5
  obtain⟨x,cJ,jL⟩:=oneSub (.inl hk)
  have gV:x∈n.subs:=by rw[cJ];simp
  have eC:x.t.right=true:=hw.fin.good x (ZeZ hn gV)
  obtain⟨k1,k2,k3⟩:=lS hk
  rw[if_neg (by omega),if_neg (by omega),if_neg (by omega),if_pos hk]at hQ
  rw[if_neg (by omega),Nat.zero_add,jL,ZdO,ZdO]at oV
  rw[if_neg (by omega),Nat.add_zero,cJ]at dZ
  have dZ:x.num g:=dZ.1
  have hE:∀d j,n.t.ends s d j=ZkD (hd0 s n.t.subs) n.t.mn n.t.mx (mR s.length n.t.mn n.t.mx d j+1) d j:=λd j=>by
   unfold T.ends
   rw[if_neg (by omega),if_pos hk]
  have dV:mR s.length n.t.mn n.t.mx 0 i<=1000:=by
   have:=hw.fin.len
   unfold mR
   split
   ·omega
   ·rcases k3 with h|⟨_,_,h⟩ <;> omega
  refine⟨λxs css tvs m' q=>∃(p d r fu:Nat)(P':PL),xs=[.int .i64 (p:Nat),.int .i64 (d:Nat),.int .i64 (r:Nat)]/\p<=s.length/\d<=1000/\r+mR s.length n.t.mn n.t.mx d p<=1000/\mR s.length n.t.mn n.t.mx d p < fu/\St fb kb root sa s sc pa pc np m' P'/\Q=ZnP (hdW s n.t.subs g) (hd0 s n.t.subs) s.length n.t.mn n.t.mx to fu d p P' r/\q=mR s.length n.t.mn n.t.mx d p,⟨_,i,0,0,_,P,rfl,hi,by omega,by omega,Nat.lt_succ_self _,cW,hQ,rfl⟩,?_⟩
  rintro p' d' r' m3 q _ ⟨p,d,r,fu,P',ue,hp',hd,hr,nK,dU,fG,rfl⟩
  simp only[List.cons.injEq,Value.int.injEq,true_and,and_true]at ue
  obtain⟨rfl,rfl,rfl⟩:=ue
  have gK:=ZbL root dU.wk.fm.rep n hn
  refine⟨_,trivial,Zn3 n d m3 gK lS hk (by omega),λv m' css h=>by unfold Ret at h;rw[h];rfl,?_⟩
  rintro n1 b1 m4 bZ iH
  simp only[Ret,Value.tuple.injEq,Array.mk.injEq,List.cons.injEq,Value.int.injEq,Value.bool.injEq,true_and,and_true]at iH
  obtain⟨rfl,rfl⟩:=iH
  have eK:=dU.le bZ
  obtain⟨X,hX⟩:∃X,X=Zcp (hd0 s n.t.subs) n.t.mn n.t.mx d p:=⟨_,rfl⟩
  have dC:=ZpO fb kb (Zp kb pa) root sa s sc n hn hk d p (by omega) hp' (λx hx=>ends0 x hx p hp') m4 eK.wk
  rw[<-hX]at dC
  have tZ:X.length<=513:=by
   rw[hX]
   unfold Zcp
   split
   ·have h1:=List.length_filter_le (λj=>decide (p < j)||decide ((d:Int) < n.t.mn)) (hd0 s n.t.subs p)
    have h2:(hd0 s n.t.subs p).length<=513:=by
     rw[jL]
     simp only[hd0]
     rw[<-Za9]
     exact Zb2 eC hw.fin.len hp'
    omega
   ·simp
  have rI:Zbe n.t.mn n.t.mx d<=1001:=by unfold Zbe;split <;> omega
  have u6:∀z∈X,Ziv n.t.mx d=true/\z∈x.t.e0 s p/\(p < z\/(d:Int) < n.t.mn):=λz hz=>by
   rw[hX]at hz
   obtain⟨q1,q2,q3⟩:=Zbb hz
   refine⟨q1,?_,q3⟩
   rw[jL]at q2;exact q2
  refine Zqf dC eK.kin Zbf ?_
  rintro a nn c m5 c9 _ ⟨a',c',hv,bG,dH⟩
  obtain⟨rfl,rfl,rfl⟩:a=a'/\nn=X.length/\c=c':=by simpa using hv
  have gM:=eK.step c9 dH
  refine Zqf (ZpQ fb kb (Zp kb pa) root sa s sc n hn (Zbe n.t.mn n.t.mx d) to (by omega) (λh=>by omega) X (λj hj=>(ZaQ s x.t p hp' j (u6 j hj).2.1).2) (by omega) a c m5 gM.wk bG) gM.kin ZmJ ?_
  rintro z m6 fF _ ⟨hz,qH⟩
  have nW:=gM.step fF qH
  obtain⟨f',rfl⟩:∃f',fu=f'+1:=⟨fu - 1,by omega⟩
  have wZ:Zzs s n.t (Zbe n.t.mn n.t.mx d) to X=X.find? (λj=>decide (to∈ZkD (hd0 s n.t.subs) n.t.mn n.t.mx (mR s.length n.t.mn n.t.mx (Zbe n.t.mn n.t.mx d) j+1) (Zbe n.t.mn n.t.mx d) j)):=by
   unfold Zzs
   simp only[hE]
  rw[wZ]at hz
  unfold ZnP at fG
  rw[<-hX]at fG
  cases gB:X.find? (λj=>decide (to∈ZkD (hd0 s n.t.subs) n.t.mn n.t.mx (mR s.length n.t.mn n.t.mx (Zbe n.t.mn n.t.mx d) j+1) (Zbe n.t.mn n.t.mx d) j))with
  | none=>
   rw[gB]at hz fG
   obtain rfl:z=-1:=by simpa[Zz2]using hz
   refine ZjY (by decide) ⟨by rw[fG],qH,?_⟩
   rw[fG];exact nW.pt
  | some w=>
   rw[gB]at hz fG
   obtain rfl:z=(w:Int):=by simpa[Zz2]using hz
   have vb:=List.mem_of_find?_eq_some gB
   obtain⟨w1,w2,w3⟩:=u6 w vb
   have ve:=ZaQ s x.t p hp' w w2
   have bF:=ZrY (len:=s.length) k1 (k3.imp id λh=>h.2.1) w1 ve w3
   have qI:=ZbL root nW.wk.fm.rep n hn
   obtain⟨_,_,_,_,_,_,g10'⟩:=ZiS qI
   obtain⟨b0,o,ha,hp⟩:=ZlJ qI (j:=0) (x:=x) (by rw[cJ];rfl)
   refine Zi3 (by simp) ⟨_,g10',Zaa rfl ⟨b0,o,ha,⟨by omega,by simp[slN,cJ]⟩,_,hp,Zqf (ih x gV g dZ (by omega) p w hp' w2 m6 P' nW) nW.zin Zep ?_⟩⟩
   rintro z m7 qD _ ⟨_,hh,jB⟩
   simp only[wr1 (show r<=1000000000000000 by omega)]
   refine⟨_,bF,w,Zbe n.t.mn n.t.mx d,r+1,f',_,rfl,ve.2,?_,by omega,by omega,nW.walk qD hh jB (Zln _ _ _ _ _ _),?_,rfl⟩
   ·unfold Zbe
    unfold Ziv at w1
    simp only[Bool.or_eq_true,beq_iff_eq,decide_eq_true_eq]at w1
    split <;> omega
   ·rw[fG,jL]
    simp only[hdW]
 ·simp[RowKit.intOf]at h3 h4 h5 h6
  rw[if_neg h6,if_neg h4,if_neg h3,if_neg h5]at hQ
  refine⟨by rw[hQ];rfl,cW.wk.has,?_⟩
  rw[hQ];exact cW.pt
theorem ZsA(fb kb:Nat)(root:Nd)(sa:Option Addr)(s:List Nat)(sc:Nat)(pa:Option Addr)(pc np:Nat):∀(N:Nat)(n:Nd),SizeOf.sizeOf n < N->n∈root.all->ZyS fb kb root sa s sc pa pc np n:=by
 intro N
 induction N with
 | zero=>intro n h;omega
 | succ N ihN=>exact λn hN hn=>ZAp fb kb root sa s sc pa pc np n hn λx hx=>ihN x (by have:=ZzK hx;omega) (ZeZ hn hx)
end Go.Proofs.Ytgclajkldphoaaa