/- Part of the proof: conditions and contracts of functions of this program. No condition of its own. -/
import Derived.Test.YtgclajkldphoaaaPC14Q
import Derived.Test.YtgclajkldphoaaaPC13S
import Derived.Test.YtgclajkldphoaaaMr
set_option linter.unusedVariables false
set_option linter.unusedSimpArgs false
namespace Go.Proofs.Ytgclajkldphoaaa
open Go Go.Eng Go.Rx Go.Proofs Go.RowKit
set_option maxRecDepth 100000
theorem Zg1{m:Mem}{n:Nd}(h:NRep m n):m n.b 0=some (.int .u8 n.t.k)/\m.reads n.b 1 [.int .u64 n.t.s0,.int .u64 n.t.s1,.int .u64 n.t.s2,.int .u64 n.t.s3]/\m n.b 5=some (.int .i64 n.t.mn)/\m n.b 6=some (.int .i64 n.t.mx)/\
  m n.b 8=some (.int .i64 (n.id:Nat))/\m n.b 9=some (.int .i64 (n.grp:Nat))/\m n.b 10=some (.slice n.a n.subs.length n.c):=by
 have h:=(Zc5.1 h).1
 have g:∀(j:Nat) v,n.cs[j]?=some v->m n.b j=some v:=λj v hj=>by have:=h j v hj;rwa [Nat.zero_add]at this
 refine⟨g 0 _ rfl,λj v hj=>?_,g 5 _ rfl,g 6 _ rfl,g 8 _ rfl,g 9 _ rfl,g 10 _ rfl⟩
 have aN:=(List.getElem?_eq_some_iff.1 hj).1
 have aN:j < 4:=aN
 have:j=0\/j=1\/j=2\/j=3:=by omega
 rcases this with rfl|rfl|rfl|rfl <;> (cases hj;first|exact g 1 _ rfl|exact g 2 _ rfl|exact g 3 _ rfl|exact g 4 _ rfl)
theorem Zjx{m:Mem}{n x:Nd}{j:Nat}(h:NRep m n)(hx:n.subs[j]?=some x):∃b0 o,n.a=some ⟨b0,o,none⟩/\m b0 (o+j)=some (ptr x.b 0):=by
 rcases(Zc5.1 h).2.2.2 with h|⟨b0,o,h1,h2⟩
 ·rw[h]at hx;simp at hx
 ·exact⟨b0,o,h1,(h2.get hx).1⟩
theorem ZuY{m:Mem}{n x:Nd}{j:Nat}(h:NRep m n)(hx:n.subs[j]?=some x):n.t.subs[j]?=some x.t:=by
 rw[<-(Zc5.1 h).2.1.2,List.getElem?_map,hx];rfl
theorem Zqe{m:Mem}{n:Nd}(h:NRep m n):n.t.subs.length=n.subs.length:=by
 rw[<-(Zc5.1 h).2.1.2];simp
theorem Zqf{m:Mem}{n:Nd}(h:NRep m n):n.subs.length<=1000000000000000:=by
 rw[<-Zqe h];exact(ZgH (Zc5.1 h).2.1.1).1
theorem Zhy:∀{l seen:List Nat},seen.Nodup->(ZoR seen l).Nodup
 | [],seen,h=>h
 | i::l,seen,h=>by
  unfold ZoR
  split
  ·exact Zhy h
  ·rename_i hi
   exact Zhy (List.nodup_append.2 ⟨h,by simp,λa ha b hb e=>by simp at hb;subst hb;exact hi (e ▸ ha)⟩)
def ZuZ(t:T):Prop:=t.k=5->0<=t.mn/\t.mn<=16/\(t.mx=-1\/(1<=t.mx/\t.mn<=t.mx/\t.mx<=16))
theorem Zdw{t:T}(h:t.right=true):ZuZ t:=λh5=>by
 rcases Zko h with h|h|h|h|h|h
 ·omega
 ·omega
 ·omega
 ·omega
 ·exact h.2.2
 ·omega
theorem Zq5{s:List Nat}{t:T}{d i:Nat}(h:t.right=true)(hi:i<=s.length):t.ends s d i=ddp (t.lists s d i).flatten:=
 Zn6 s t d i hi λh5=>by
  obtain⟨h1,_,h3⟩:=Zdw h h5
  exact⟨h1,h3.imp id λh=>h.2.1⟩
theorem Zut{l:List Nat}(hn:l.Nodup)(h:∀x∈l,x<=512):l.length<=513:=by
 have:=List.Nodup.length_le_of_subset hn (l₂:=List.range 513) (λx hx=>List.mem_range.2 (by have:=h x hx;omega))
 simpa using this
theorem ZbT{s:List Nat}{t:T}{d i:Nat}(h:t.right=true)(hs:s.length<=512)(hi:i<=s.length):(t.ends s d i).length<=513:=by
 refine Zut ?_ λx hx=>?_
 ·rw[Zq5 h hi];exact Zhy (by simp)
 ·have:=Zf3 s t d i hi x hx;omega
structure Wk (m:Mem)(fb kb:Nat)(Z:Nat->Prop)(root:Nd)(sa:Option Addr)(s:List Nat)(sc:Nat):Prop where
 fin:Fin (m.off Z) fb kb root sa s sc
 has:HasM m kb Z root s
 z:ZOk m kb Z
theorem Wk.le{m m':Mem}{fb kb:Nat}{Z:Nat->Prop}{root:Nd}{sa:Option Addr}{s:List Nat}{sc:Nat}(h:Wk m fb kb Z root sa s sc)(hm:m.le m'):Wk m' fb kb Z root sa s sc:=⟨h.fin.mono (ZeR hm),h.has.le hm,h.z.le hm⟩
theorem Wk.next{m m':Mem}{fb kb:Nat}{Z:Nat->Prop}{root:Nd}{sa:Option Addr}{s:List Nat}{sc:Nat}(h:Wk m fb kb Z root sa s sc)(hm:(but m kb).le m')(hh:HasM m' kb Z root s):Wk m' fb kb Z root sa s sc:=⟨h.fin.mono (ZqM h.z.1 hm),hh,h.z.next hm⟩
theorem Wk.fb{m:Mem}{fb kb:Nat}{Z:Nat->Prop}{root:Nd}{sa:Option Addr}{s:List Nat}{sc:Nat}(h:Wk m fb kb Z root sa s sc):Fin (but m kb) fb kb root sa s sc:=h.fin.mono (Zmz h.z.1)
theorem Wk.fm{m:Mem}{fb kb:Nat}{Z:Nat->Prop}{root:Nd}{sa:Option Addr}{s:List Nat}{sc:Nat}(h:Wk m fb kb Z root sa s sc):Fin m fb kb root sa s sc:=h.fin.mono (Mem.off_le _ _)
def Zty(kb:Nat)(Z:Nat->Prop)(root:Nd)(s X:List Nat):RTY:=λv m' _ _=>∃a c,v=.slice a X.length c/\rowRd (m'.off Z) a (nsL X)/\HasM m' kb Z root s
theorem Za3{kb:Nat}{Z:Nat->Prop}{root:Nd}{s X:List Nat}:∀(v:Value)(m':Mem) (css:List (List Value)) (tvs:List Value),Zty kb Z root s X v m' css tvs->Shape.fits Shape.slice v=true:=λv _ _ _ ⟨a,c,h,_⟩=>by rw[h];rfl
def Zkr(fb kb:Nat)(Z:Nat->Prop)(root:Nd)(sa:Option Addr)(s:List Nat)(sc:Nat)(n:Nd)(d i:Nat):Prop:=
 ∀m:Mem,Wk m fb kb Z root sa s sc->CXY Try.prog 44 #[.pointer (some ⟨fb,0,none⟩),.pointer (some ⟨n.b,0,none⟩),.int .i64 (d:Nat),.int .i64 (i:Nat)] m (λb=>b=kb) [] [] (Zty kb Z root s (n.t.ends s d i))
theorem Zns{P:Program}{g:FuncId}{args:Array Value}{m m0:Mem}{kb:Nat}{R0:RTY}{K:Option Addr->Nat->Nat->Mem->Prop}(h:CXY P g args m (λb=>b=kb) [] [] R0)(hk:∃es,m.k kb=some es)(hf:∀(v:Value)(m':Mem) (css:List (List Value)) (tvs:List Value),R0 v m' css tvs->Shape.fits Shape.slice v=true)
  (k:∀a n c m',(but m kb).le m'->R0 (.slice a n c) m' [] []->K a n c m'):
  ∃(Y:Nat->Prop),∃(R:Value->Mem->List (List Value)->List Value->Prop),CXY P g args m Y [] [] R/\(∀(t:Tok),t∈[]->∀(b:Nat),t.blk=some b->Y b)/\
   (∀(b:Nat),Y b->(∃(t:Tok),t∈[]/\t.blk=some b)\/(Mem.free (but m0 kb) b/\Mem.k (but m0 kb) b=none)/\((∃(o:Nat),∃(v:Value),m b o=some v)\/∃(e:List (Value×Value)),Mem.k m b=some e)/\True)/\
   (∀(v:Value)(m':Mem) (css:List (List Value)) (tvs:List Value),R v m' css tvs->Shape.fits Shape.slice v=true)/\
   ∀(a:Option Addr)(n c:Nat)(m':Mem),Mem.le (Mem.off m Y) m'->(NewM m m' λ(b:Nat)=>Y b\/Mem.free m b)->R (.slice a n c) m' [] []->K a n c m':=
 ⟨λb=>b=kb,R0,h,by simp,λb hb=>.inr ⟨by subst hb;exact⟨Zjg,ZkV⟩,.inr (by subst hb;exact hk),trivial⟩,hf,λa n c m' h1 _ h2=>k a n c m' h1 h2⟩
theorem Zlx(n:Nd)(d:Nat)(m:Mem)(h:NRep m n)(hk:ZuZ n.t)(h5:n.t.k=5)(hd:d<=1000000000000000):CX Try.prog 75 #[.pointer (some ⟨n.b,0,none⟩),.int .i64 (d:Nat)] m [] (Ret (.tuple #[.int .i64 (Zdd n.t.mn n.t.mx d:Nat),.bool (Zjf n.t.mx d)])):=by
 apply Zju
 unfold Zf8
 obtain⟨h1,h2,h3⟩:=hk h5
 obtain⟨_,_,g5,g6,_⟩:=Zg1 h
 have eQ:IntKind.i64.wrap ((d:Int)+1)=((d+1:Nat):Int):=by rw[Zbl (by omega) (by omega)];rfl
 simp only[eQ]
 refine⟨_,g6,Zaa rfl (Zab (λhq=>⟨_,g6,Zaa rfl (Zai (Mem.le_refl _) ?_)⟩) (λhq=>⟨_,g5,Zaa rfl (Zai (Mem.le_refl _) ?_)⟩))⟩
 ·have hq':n.t.mx≠-1:=by simpa[RowKit.intOf]using hq
  unfold Ret Zdd Zjf
  rw[if_neg hq',beq_eq_false_iff_ne.2 hq',Bool.false_or];rfl
 ·have hq':n.t.mx=-1:=by simpa[RowKit.intOf]using hq
  unfold Ret Zdd Zjf
  rw[if_pos hq',hq']
  congr 3
  show Value.int .i64 (if n.t.mn < _ then n.t.mn else _)=_
  congr 1
  split <;> omega
theorem Zm4{α:Type}{p:α->Bool}{l:List α}{j:Nat}{x:α}(h:l[j]?=some x):(l.take (j+1)).filter p=if p x=true then(l.take j).filter p++[x]else(l.take j).filter p:=by
 rw[Zck h,List.filter_append]
 simp only[List.filter_cons,List.filter_nil]
 split <;> simp
theorem Zm5(fb kb:Nat)(Z:Nat->Prop)(root:Nd)(sa:Option Addr)(s:List Nat)(sc:Nat)(n:Nd)(hn:n∈root.all)(h5:n.t.k=5)(d i:Nat)(hd:d<=1000000000000000)(hi:i<=s.length)(ih:∀x∈n.subs,Zkr fb kb Z root sa s sc x 0 i)(m:Mem)(hw:Wk m fb kb Z root sa s sc):
  CXY Try.prog 76 #[.pointer (some ⟨fb,0,none⟩),.pointer (some ⟨n.b,0,none⟩),.int .i64 (d:Nat),.int .i64 (i:Nat)] m (λb=>b=kb) [] [] (Zty kb Z root s (ZdU (hd0 s n.t.subs) n.t.mn n.t.mx d i)):=by
 have hg:=hw.fin.good n hn
 have kG:=Zdw hg
 have cS:=Zbw root hw.fm.rep n hn
 obtain⟨x0,jO⟩:∃x,n.t.subs=[x]:=by
  rcases Zko hg with h|h|h|h|h|h <;> first|omega|exact h.2.1|exact h.2
 obtain⟨x,cH⟩:∃x,n.subs=[x]:=by
  have:=Zqe cS
  rw[jO]at this
  match bR:n.subs,this with
  | [x],_=>exact⟨x,rfl⟩
 have hx:n.subs[0]?=some x:=by rw[cH];rfl
 have gZ:x0=x.t:=by
  have:=ZuY cS hx
  rw[jO]at this;simpa using this
 subst gZ
 have fP:x∈n.subs:=by rw[cH];simp
 have eJ:x.t.right=true:=hw.fin.good x (ZdP hn fP)
 obtain⟨X,hX⟩:∃X,X=x.t.ends s 0 i:=⟨_,rfl⟩
 have r7:X.length<=513:=by rw[hX];exact ZbT eJ hw.fin.len hi
 have dC:ZdU (hd0 s n.t.subs) n.t.mn n.t.mx d i=if Zjf n.t.mx d=true then X.filter (λj=>decide (i < j)||decide ((d:Int) < n.t.mn))else[]:=by
  unfold ZdU
  rw[jO,hX,Za1];simp[hd0]
 apply ZdH
 unfold Zcy
 refine⟨_,trivial,Zlx n d m cS kG h5 hd,λv m' css h=>by unfold Ret at h;rw[h];rfl,?_⟩
 rintro n1 b1 m1 aU oL
 simp only[Ret,Value.tuple.injEq,Array.mk.injEq,List.cons.injEq,Value.int.injEq,Value.bool.injEq,true_and,and_true]at oL
 obtain⟨rfl,rfl⟩:=oL
 have dY:=hw.le aU
 refine Zab (λhq=>⟨none,0,?_,?_,dY.has⟩) (λhq=>?_)
 ·rw[dC,if_neg (by simpa using hq)];rfl
 ·rw[dC,if_neg (by simpa using hq)];exact .inl rfl
 have r8:Zjf n.t.mx d=true:=by simpa using hq
 rw[dC,if_pos r8]
 have oM:=Zbw root dY.fm.rep n hn
 obtain⟨_,_,_,_,_,_,g10⟩:=Zg1 oM
 obtain⟨b0,o,ha,hp⟩:=Zjx oM hx
 obtain⟨es1,gP,_⟩:=dY.has
 refine⟨_,g10,Zaa rfl ⟨b0,o,ha,⟨by omega,by simp[slN,cH]⟩,_,hp,Zns (ih x fP m1 dY) ⟨es1,gP⟩ Za3 ?_⟩⟩
 rintro a nn c m2 bC ⟨a',c',hv,aM,cY⟩
 obtain⟨rfl,rfl,rfl⟩:a=a'/\nn=(x.t.ends s 0 i).length/\c=c':=by simpa using hv
 rw[<-hX]at aM
 rw[<-hX]
 have dQ:=dY.next bC cY
 obtain⟨p,u0⟩:∃p:Nat->Bool,p=λj=>decide (i < j)||decide ((d:Int) < n.t.mn):=⟨_,rfl⟩
 rw[<-u0]
 have td:∀j,((X.take j).filter p).length<=513:=λj=>by
  have h1:=List.length_filter_le p (X.take j)
  have h2:=List.length_take_le j X
  have h3:(X.take j).length<=X.length:=by rw[List.length_take];omega
  omega
 refine⟨λxs css tvs m' q=>∃(j:Nat)(a2:Option Addr)(c2:Nat),j<=X.length/\xs=[.slice a2 ((X.take j).filter p).length c2,.int .i64 (j:Nat)]/\tvs=[.slice a2 ((X.take j).filter p).length c2]/\(but m2 kb).le m'/\HasM m' kb Z root s/\SeenAt m' (λb=>¬Z b) a2 ((X.take j).filter p)/\q=X.length - j,⟨_,0,none,0,by omega,rfl,rfl,ZgL _ _,cY,.inl ⟨rfl,rfl⟩,rfl⟩,?_⟩
 rintro ab aa c2 af ac ad ae m3 ai _ ⟨j,a2,c2',hj,jL,fI,cX,eU,hS,rfl⟩
 simp only[List.cons.injEq,Value.int.injEq,Value.slice.injEq,true_and,and_true]at jL
 obtain⟨⟨rfl,rfl,rfl⟩,rfl⟩:=jL
 obtain⟨rfl,rfl,rfl⟩:ac=ab/\ad=((X.take j).filter p).length/\ae=c2:=by simpa using fI
 have mN:=dQ.next cX eU
 have fK:=Zbw root mN.fm.rep n hn
 obtain⟨es3,dJ,_⟩:=eU
 refine Zab (λaN=>?_) (λcP=>?_)
 ·have aT:j < X.length:=by have:=of_decide_eq_true aN;omega
  obtain⟨y,hy⟩:∃y,X[j]?=some y:=⟨_,List.getElem?_eq_getElem aT⟩
  have eQ:IntKind.i64.wrap ((j:Int)+1)=((j+1:Nat):Int):=by rw[Zbl (by omega) (by omega)];rfl
  have eI:=Zm4 (p:=p) hy
  rcases((aM.mono (Zmz dQ.z.1)).mono cX)with h|⟨b,o2,h1,h2⟩
  ·have:X=[]:=by simpa[nsL]using h
   rw[this]at aT;simp at aT
  obtain⟨_,_,g5,_⟩:=Zg1 fK
  simp only[Int.toNat_natCast,Nat.mul_one,eQ]
  refine⟨b,o2,h1,⟨by omega,by omega⟩,.int .i64 (y:Nat),h2 j _ (by rw[nsL,List.getElem?_map,hy];rfl),p y,Zaa rfl (Zab (λjG=>⟨by trivial,ZaI ?_⟩) (λjG=>⟨_,g5,Zaa rfl ⟨by trivial,ZaI ?_⟩⟩)),Zab (λqy=>Zaa rfl λag o8=>⟨.inl (by trivial),nsL ((X.take j).filter p),[.int .i64 (y:Nat)],?_,rfl,hS.row.mono (Mem.le_add o8 _),.inr ⟨ag,0,rfl,?_⟩,?_,?_,?_,λa4 c4 m4 cI bP hf=>?_⟩) (λqy=>⟨_,?_,j+1,ac,ae,by omega,?_,?_,cX,⟨es3,dJ,by assumption⟩,?_,rfl⟩)⟩
  ·have:(i:Int) < (y:Nat):=by have:=of_decide_eq_true jG;simpa[RowKit.intOf]using this
   rw[u0];simp;left;omega
  ·have:¬(i:Int) < (y:Nat):=by have:=of_decide_eq_false jG;simpa[RowKit.intOf]using this
   rw[u0]
   have hn:decide (i < y)=false:=by simp;omega
   simp only[hn,Bool.false_or];rfl
  ·simp[nsL]
  ·intro q v hq;rw[Nat.zero_add,Mem.add_same];exact hq
  ·intro u hu;obtain rfl:u=.int .i64 (y:Nat):=by simpa using hu
   rfl
  ·have:=td j;omega
  ·have:=td j;omega
  ·have hM:m3.le m4:=mLt (Mem.le_add o8 _) cI
   refine⟨_,?_,j+1,a4,c4,by omega,?_,?_,mLt cX hM,HasM.le ⟨es3,dJ,by assumption⟩ hM,?_,rfl⟩
   ·omega
   ·rw[eI,if_pos qy];simp
   ·rw[eI,if_pos qy];simp
   ·rw[eI,if_pos qy]
    refine hS.push (M:=m3.add ag [.int .i64 (y:Nat)]) bP hf λb3 dZ dW=>mN.z.new ⟨es3,dJ⟩ (Zg0 (by simp) dZ).2 dW
  ·omega
  ·rw[eI,if_neg (by simp[qy])]
  ·rw[eI,if_neg (by simp[qy])]
  ·rw[eI,if_neg (by simp[qy])];exact hS
 ·have:j=X.length:=by have:=of_decide_eq_false cP;omega
  subst this
  rw[List.take_length]at hS ⊢
  refine⟨ac,ae,rfl,?_,⟨es3,dJ,by assumption⟩⟩
  rcases hS with⟨h1,_⟩|⟨b,h1,h2,h3,_⟩
  ·rw[h1];exact .inl rfl
  ·exact .inr ⟨b,0,h1,λq v hq=>by rw[Mem.off_at h2];exact h3 q v hq⟩
end Go.Proofs.Ytgclajkldphoaaa
set_option linter.unusedVariables false
set_option linter.unusedSimpArgs false
namespace Go.Proofs.Ytgclajkldphoaaa
open Go Go.Eng Go.Rx Go.Proofs Go.RowKit
set_option maxRecDepth 100000
theorem ZrT(fb nb:Nat)(d i:Int)(m:Mem):CX Try.prog 72 #[.pointer (some ⟨fb,0,none⟩),.pointer (some ⟨nb,0,none⟩),.int .i64 d,.int .i64 i] m [] (λv m' _=>∃c0 c1 c2 c3,v=.func (.func 91) #[] #[.pointer (some ⟨c0,0,none⟩),.pointer (some ⟨c1,0,none⟩),.pointer (some ⟨c2,0,none⟩),.pointer (some ⟨c3,0,none⟩)]/\
  (m'.reads c0 0 [.pointer (some ⟨nb,0,none⟩)]/\m'.reads c1 0 [.int .i64 i]/\m'.reads c2 0 [.pointer (some ⟨fb,0,none⟩)]/\m'.reads c3 0 [.int .i64 d])/\(m.k c0=none/\m.k c1=none/\m.k c2=none/\m.k c3=none)):=by
 apply ZdY
 unfold Zcx
 intro b m1 aU hb _ _ hk b1 m2 bC dZ _ _ fD b2 m3 cJ dW _ _ gU b3 m4 cI jC _ _ mH
 have none_le:∀{a c:Mem} {x:Nat},a.le c->c.k x=none->a.k x=none:=λ{a c x} h e=>by
  cases he:a.k x with
  | none=>rfl
  | some u=>rw[h.k _ _ he]at e;cases e
 have wB:=mLt aU bC
 have u2:=mLt wB cJ
 exact⟨m4,mLt u2 cI,Mem.le_refl _,b1,b3,b,b2,rfl,⟨dZ.mono (mLt cJ cI),jC,hb.mono (mLt bC (mLt cJ cI)),dW.mono cI⟩,none_le aU fD,none_le u2 mH,hk,none_le wB gU⟩
theorem Zjy{M:Mem}{b kb:Nat}{LL:List (List Nat)}{q x:Nat}(hq:LL[q]?=some [x])(hk:∃es,M.k kb=some es):Zsg LL kb q [.slice (some ⟨b,0,none⟩) 1 1] (M.add b [.int .i64 (x:Nat)]):=
 ⟨⟨[x],some ⟨b,0,none⟩,1,hq,rfl,.inr ⟨b,0,rfl,λj v hj=>by rw[Nat.zero_add,Mem.add_same];exact hj⟩⟩,hk⟩
theorem Zg2{m2:Mem}{kb:Nat}{Z:Nat->Prop}{root:Nd}{s X:List Nat}{LL:List (List Nat)}{q:Nat}{a:Option Addr}{nn c:Nat}(hq:LL[q]?=some X)(h:Zty kb Z root s X (.slice a nn c) m2 [] []):Zsg LL kb q [.slice a nn c] m2:=by
 obtain⟨a',c',hv,aM,es,dN,_⟩:=h
 obtain⟨rfl,rfl,rfl⟩:a=a'/\nn=X.length/\c=c':=by simpa using hv
 exact⟨⟨X,a,c,hq,rfl,aM.mono (Mem.off_le _ _)⟩,es,dN⟩
structure Cap (B:Mem)(fb:Nat)(n:Nd)(d i c0 c1 c2 c3:Nat):Prop where
 c0:B c0 0=some (.pointer (some ⟨n.b,0,none⟩))
 c1:B c1 0=some (.int .i64 (i:Nat))
 c2:B c2 0=some (.pointer (some ⟨fb,0,none⟩))
 c3:B c3 0=some (.int .i64 (d:Nat))
theorem Cap.mono{B B':Mem}{fb:Nat}{n:Nd}{d i c0 c1 c2 c3:Nat}(h:Cap B fb n d i c0 c1 c2 c3)(hB:B.le B'):Cap B' fb n d i c0 c1 c2 c3:=⟨hB.c _ _ _ h.c0,hB.c _ _ _ h.c1,hB.c _ _ _ h.c2,hB.c _ _ _ h.c3⟩
theorem wr1{j:Nat}(h:j<=1000000000000000):IntKind.i64.wrap ((j:Int)+1)=((j+1:Nat):Int):=by rw[Zbl (by omega) (by omega)];rfl
theorem Zqg(fb kb:Nat)(Z:Nat->Prop)(root:Nd)(sa:Option Addr)(s:List Nat)(sc:Nat)(n:Nd)(hn:n∈root.all)(d i:Nat)(hd:d<=1000000000000000)(hi:i<=s.length)(kN:n.t.k=3->d<=n.subs.length)
  (ihs:∀x∈n.subs,∀j,j<=s.length->Zkr fb kb Z root sa s sc x 0 j) (ih3:n.t.k=3->d < n.subs.length->∀j,j<=s.length->Zkr fb kb Z root sa s sc n (d+1) j)
  (ih5:n.t.k=5->∀j∈ZdU (hd0 s n.t.subs) n.t.mn n.t.mx d i,Zkr fb kb Z root sa s sc n (Zdd n.t.mn n.t.mx d) j) (m:Mem) (hw:Wk m fb kb Z root sa s sc) (c0 c1 c2 c3:Nat) (hc:Cap (but m kb) fb n d i c0 c1 c2 c3):
  IXY Try.prog 91 [] [.pointer (some ⟨c0,0,none⟩),.pointer (some ⟨c1,0,none⟩),.pointer (some ⟨c2,0,none⟩),.pointer (some ⟨c3,0,none⟩)] m (λb=>b=kb) (n.t.lists s d i).length (Zsg (n.t.lists s d i) kb) (λm'=>HasM m' kb Z root s):=by
 have hg:=hw.fin.good n hn
 have kG:=Zdw hg
 have iQ:=Zbw root hw.fb.rep n hn
 have cS:=NRep.mono (ZgL m kb) _ iQ
 have jB:=hc.mono (ZgL m kb)
 obtain⟨g0,g1,g5,g6,g8,g9,g10⟩:=Zg1 cS
 obtain⟨_,_,_,_,_,_,g10B⟩:=Zg1 iQ
 have aX:=Zqe cS
 have gQ:=Zqf cS
 obtain⟨es,dN,bQ⟩:=hw.has
 have one:∀{b:Nat},m.free b->(n.t.lists s d i)=[[i]]->∃LL,True:=λ_ _=>⟨(),trivial⟩
 have oneSub:n.t.k=5\/n.t.k=6->∃x,n.subs=[x]/\n.t.subs=[x.t]:=λh=>by
  obtain⟨x0,jO⟩:∃x,n.t.subs=[x]:=by
   rcases Zko hg with h'|h'|h'|h'|h'|h' <;> first|omega|exact h'.2.1|exact h'.2
  have hl:=aX
  rw[jO]at hl
  match bR:n.subs,hl with
  | [x],_=>
   have:=ZuY cS (j:=0) (x:=x) (by rw[bR];rfl)
   rw[jO]at this
   exact⟨x,rfl,by rw[jO];simpa using this⟩
 apply Zda 0 [] []
 unfold Zb5
 intro l
 refine⟨_,jB.c0,Zaa rfl (Zaa rfl ⟨_,g0,Zaa rfl (Zab (λh1=>?_) (λh1=>Zaa rfl (Zab (λh2=>?_) (λh2=>Zaa rfl (Zab (λh6=>?_) (λh6=>Zaa rfl (Zab (λh4=>?_) (λh4=>Zaa rfl (Zab (λh3=>?_) (λh3=>Zaa rfl (Zab (λh5=>?_) (λh5=>?_))))))))))))⟩)⟩
 ·
  have hk:n.t.k=1:=by simpa[RowKit.intOf]using h1
  have fA:n.t.lists s d i=[[i]]:=by unfold T.lists;rw[if_pos hk]
  rw[fA]
  exact⟨_,jB.c1,Zaa rfl λb hb=>⟨⟨by trivial,0,rfl,by simp,Zjy rfl ⟨es,dN⟩⟩,rfl,HasM.le hw.has (Mem.le_add hb _)⟩⟩
 ·
  have hk:n.t.k=2:=by simpa[RowKit.intOf]using h2
  have fA:n.t.lists s d i=(match s[i]? with
   | some c=>if n.t.hasB c=true then[[i+1]]else[]
   | none=>[]):=by unfold T.lists;rw[if_neg (by omega),if_pos hk];cases s[i]? <;> rfl
  have hs:=hw.fm.str
  have fL:=hw.fm.byt
  have wC:=hw.fin.len
  refine⟨λ_ _ _=>Ret (.bool (n.t.hasB ((s[i]?).getD 0))),_,jB.c1,_,jB.c2,Zaa rfl (Zaa rfl ⟨_,hs,Zaa rfl (Zaa rfl (Zab (λaN=>?_) (λcP=>?_)))⟩)⟩
  ·have aT:i < s.length:=by have:=of_decide_eq_true aN;simpa[RowKit.intOf,slN]using this
   obtain⟨c,cR⟩:∃c,s[i]?=some c:=⟨_,List.getElem?_eq_getElem aT⟩
   obtain⟨⟨b,o,ye,s4⟩,oK⟩:=fL.get cR
   rw[cR]at fA
   simp only at fA
   refine⟨_,jB.c0,Zaa rfl (Zaa rfl ⟨_,_,_,_,g1,_,jB.c2,Zaa rfl (Zaa rfl ⟨_,hs,_,jB.c1,Zaa rfl (Zaa rfl ⟨b,o,ye,⟨by simp[RowKit.intOf],by simp[RowKit.intOf,slN];omega⟩,.int .u8 (c:Nat),?_,_,rfl,?_,?_,?_⟩)⟩)⟩)⟩
   ·simp only[RowKit.intOf,Int.toNat_natCast,Nat.mul_one];exact s4
   ·rw[cR];exact Ztp n.t c oK m (Zc5.1 cS).2.1.1
   ·intro v m' css h;unfold Ret at h;rw[h];rfl
   ·intro bb m' hm' hR M hM _
    have hR:bb=n.t.hasB c:=by rw[cR]at hR;simpa[Ret]using hR
    refine Zab (λhq=>⟨_,hM.c _ _ _ jB.c1,Zaa rfl λb2 dW=>?_⟩) (λhq=>?_)
    ·rw[if_pos (by rw[<-hR];exact hq)]at fA
     rw[fA]
     simp only[RowKit.intOf,wr1 (show i<=1000000000000000 by omega)]
     exact⟨⟨by trivial,0,rfl,by simp,Zjy rfl ⟨es,hM.k _ _ dN⟩⟩,rfl,HasM.le (HasM.le hw.has hM) (Mem.le_add dW _)⟩
    ·rw[if_neg (by rw[<-hR,hq];simp)]at fA
     rw[fA]
     exact⟨rfl,HasM.le hw.has hM⟩
  ·have u4:s.length<=i:=by have:=of_decide_eq_false cP;simpa[RowKit.intOf,slN]using this
   have cR:s[i]?=none:=List.getElem?_eq_none_iff.2 u4
   rw[cR]at fA
   rw[fA]
   exact λM hM _=>⟨rfl,HasM.le hw.has hM⟩
 ·
  have hk:n.t.k=6:=by simpa[RowKit.intOf]using h6
  obtain⟨x,cH,gZ⟩:=oneSub (.inr hk)
  have hx:n.subs[0]?=some x:=by rw[cH];rfl
  have fA:n.t.lists s d i=[x.t.ends s 0 i]:=by unfold T.lists;rw[if_neg (by omega),if_neg (by omega),if_pos hk,gZ,Za1];simp[hd0]
  obtain⟨b0,o,ha,hp⟩:=Zjx iQ hx
  rw[fA]
  refine⟨_,hc.c2,_,hc.c0,Zaa rfl (Zaa rfl ⟨_,g10B,Zaa rfl ⟨b0,o,ha,⟨by omega,by simp[slN,cH]⟩,_,hp,_,hc.c1,Zns (ihs x (by rw[cH];simp) i hi m hw) ⟨es,dN⟩ Za3 ?_⟩⟩)⟩
  intro a nn c m2 bC hR
  exact⟨⟨by trivial,0,rfl,by simp,Zg2 rfl hR⟩,rfl,by obtain⟨_,_,_,_,h⟩:=hR;exact h⟩
 ·
  have hk:n.t.k=4:=by simpa[RowKit.intOf]using h4
  have fA:n.t.lists s d i=n.subs.map λx=>x.t.ends s 0 i:=by
   unfold T.lists
   rw[if_neg (by omega),if_neg (by omega),if_neg (by omega),if_pos hk,<-(Zc5.1 cS).2.1.2,List.map_map]
   refine List.map_congr_left λx _=>?_
   simp[Za1]
  rw[fA,List.length_map]
  refine⟨_,jB.c0,Zaa rfl (Zaa rfl ⟨_,g10,Zaa rfl ⟨λxs css tvs m' q=>∃j:Nat,j<=n.subs.length/\xs=[.int .i64 (j:Nat),.int .i64 (j:Nat)]/\(but m kb).le m'/\HasM m' kb Z root s/\q=n.subs.length - j,⟨_,0,by omega,rfl,ZgL _ _,hw.has,rfl⟩,?_⟩⟩)⟩
  rintro y ag m1 ak _ ⟨j,hj,cH,kJ,oN,rfl⟩
  simp only[List.cons.injEq,Value.int.injEq,true_and,and_true]at cH
  obtain⟨rfl,rfl⟩:=cH
  have dY:=hw.next kJ oN
  have mL:=hc.mono kJ
  obtain⟨es1,gP,_⟩:=oN
  refine Zab (λaN=>?_) (λcP=>?_)
  ·have aT:j < n.subs.length:=by have:=of_decide_eq_true aN;simp[slN]at this;omega
   obtain⟨x,hx⟩:∃x,n.subs[j]?=some x:=⟨_,List.getElem?_eq_getElem aT⟩
   obtain⟨b0,o,ha,hp⟩:=Zjx (NRep.mono kJ _ iQ) hx
   simp only[Int.toNat_natCast,Nat.mul_one,wr1 (show j<=1000000000000000 by omega)]
   refine Zaa rfl ⟨b0,o,ha,⟨by omega,by simp[slN];omega⟩,_,hp,_,mL.c2,_,mL.c1,Zns (ihs x (List.mem_of_getElem? hx) i hi m1 dY) ⟨es1,gP⟩ Za3 ?_⟩
   intro a nn c m2 bC hR
   refine⟨⟨by trivial,j,rfl,aT,Zg2 (by rw[List.getElem?_map,hx];rfl) hR⟩,_,?_,j+1,by omega,rfl,mLt (Zd3 kJ) bC,by obtain⟨_,_,_,_,h⟩:=hR;exact h,rfl⟩
   omega
  ·have:j=n.subs.length:=by have:=of_decide_eq_false cP;simp[slN]at this;omega
   subst this
   exact⟨rfl,es1,gP,by assumption⟩
 ·
  have hk:n.t.k=3:=by simpa[RowKit.intOf]using h3
  have hd':=kN hk
  have fA:n.t.lists s d i=(match n.t.subs[d]? with
   | none=>[[i]]
   | some x=>(x.e0 s i).map λj=>n.t.ends s (d+1) j):=by unfold T.lists;rw[if_neg (by omega),if_neg (by omega),if_neg (by omega),if_neg (by omega),if_pos hk];cases n.t.subs[d]? <;> rfl
  refine⟨_,jB.c3,_,jB.c0,Zaa rfl (Zaa rfl ⟨_,g10,Zaa rfl (Zaa rfl (Zab (λhe=>?_) (λcL=>?_)))⟩)⟩
  ·have he':d=n.subs.length:=by simp[RowKit.intOf,slN]at he;omega
   rw[List.getElem?_eq_none_iff.2 (by omega)]at fA
   rw[fA]
   exact⟨_,jB.c1,Zaa rfl λb hb=>⟨⟨by trivial,0,rfl,by simp,Zjy rfl ⟨es,dN⟩⟩,rfl,HasM.le hw.has (Mem.le_add hb _)⟩⟩
  ·have aN:d < n.subs.length:=by simp[RowKit.intOf,slN]at cL;omega
   obtain⟨x,hx⟩:∃x,n.subs[d]?=some x:=⟨_,List.getElem?_eq_getElem aN⟩
   have fP:=List.mem_of_getElem? hx
   rw[ZuY cS hx]at fA
   simp only at fA
   rw[<-Za1]at fA
   have eJ:x.t.right=true:=hw.fin.good x (ZdP hn fP)
   obtain⟨X,hX⟩:∃X,X=x.t.ends s 0 i:=⟨_,rfl⟩
   have r7:X.length<=513:=by rw[hX];exact ZbT eJ hw.fin.len hi
   rw[<-hX]at fA
   rw[fA,List.length_map]
   obtain⟨b0,o,ha,hp⟩:=Zjx iQ hx
   refine⟨_,hc.c2,_,hc.c0,Zaa rfl (Zaa rfl ⟨_,g10B,_,hc.c3,Zaa rfl ⟨b0,o,ha,⟨by simp[RowKit.intOf],by simp[RowKit.intOf,slN];omega⟩,_,by simp only[RowKit.intOf,Int.toNat_natCast,Nat.mul_one];exact hp,_,hc.c1,Zns (ihs x fP i hi m hw) ⟨es,dN⟩ Za3 ?_⟩⟩)⟩
   rintro a nn c m2 bC ⟨a',c',hv,aM,cY⟩
   rw[<-hX]at hv aM
   obtain⟨rfl,rfl,rfl⟩:a=a'/\nn=X.length/\c=c':=by simpa using hv
   have dQ:=hw.next bC cY
   have sb:=hc.mono (Zd3 bC)
   refine⟨λxs css tvs m' q=>∃j:Nat,j<=X.length/\xs=[.int .i64 (j:Nat),.int .i64 (j:Nat)]/\(but m2 kb).le m'/\HasM m' kb Z root s/\q=X.length - j,⟨_,0,by omega,rfl,ZgL _ _,cY,rfl⟩,?_⟩
   rintro y ak m3 al _ ⟨j,hj,cH,cX,eU,rfl⟩
   simp only[List.cons.injEq,Value.int.injEq,true_and,and_true]at cH
   obtain⟨rfl,rfl⟩:=cH
   have mN:=dQ.next cX eU
   have lT:=sb.mono cX
   obtain⟨es3,dJ,_⟩:=eU
   refine Zab (λlQ=>?_) (λcP=>?_)
   ·have aT:j < X.length:=by have:=of_decide_eq_true lQ;omega
    obtain⟨z,hz⟩:∃z,X[j]?=some z:=⟨_,List.getElem?_eq_getElem aT⟩
    have fY:=Zf3 s x.t 0 i hi z (hX ▸ List.mem_of_getElem? hz)
    rcases((aM.mono (Zmz dQ.z.1)).mono cX)with h|⟨b,o2,h1,h2⟩
    ·have:X=[]:=by simpa[nsL]using h
     rw[this]at aT;simp at aT
    simp only[Int.toNat_natCast,Nat.mul_one,wr1 (show j<=1000000000000000 by omega)]
    refine⟨b,o2,h1,⟨by omega,by omega⟩,.int .i64 (z:Nat),h2 j _ (by rw[nsL,List.getElem?_map,hz];rfl),_,lT.c2,_,lT.c0,_,lT.c3,Zaa rfl ?_⟩
    simp only[RowKit.intOf,wr1 hd]
    refine Zns (ih3 hk aN z fY.2 m3 mN) ⟨es3,dJ⟩ Za3 ?_
    intro a2 n2 c2' m4 cI hR
    refine⟨⟨by trivial,j,rfl,aT,Zg2 (by rw[List.getElem?_map,hz];rfl) hR⟩,_,?_,j+1,by omega,rfl,mLt (Zd3 cX) cI,by obtain⟨_,_,_,_,h⟩:=hR;exact h,rfl⟩
    omega
   ·have:j=X.length:=by have:=of_decide_eq_false cP;omega
    subst this
    exact⟨rfl,es3,dJ,by assumption⟩
 ·
  have hk:n.t.k=5:=by simpa[RowKit.intOf]using h5
  obtain⟨x,cH,gZ⟩:=oneSub (.inl hk)
  obtain⟨X,hX⟩:∃X,X=ZdU (hd0 s n.t.subs) n.t.mn n.t.mx d i:=⟨_,rfl⟩
  have fA:n.t.lists s d i=(X.map λj=>n.t.ends s (Zdd n.t.mn n.t.mx d) j)++(if(d:Int) ≥ n.t.mn then[[i]]else[]):=by
   unfold T.lists
   rw[if_neg (by omega),if_neg (by omega),if_neg (by omega),if_neg (by omega),if_neg (by omega),if_pos hk,<-hX]
  have tw:∀z∈X,Zjf n.t.mx d=true/\z<=s.length:=λz hz=>by
   rw[hX]at hz
   obtain⟨q1,q2,_⟩:=Zcu hz
   exact⟨q1,(Zb2 s n.t.subs i hi z q2).2⟩
  have r7:X.length<=513:=by
   rw[hX]
   unfold ZdU
   split
   ·have h1:=List.length_filter_le (λj=>decide (i < j)||decide ((d:Int) < n.t.mn)) (hd0 s n.t.subs i)
    have h2:(hd0 s n.t.subs i).length<=513:=by
     rw[gZ]
     simp only[hd0]
     rw[<-Za1]
     exact ZbT (hw.fin.good x (ZdP hn (by rw[cH];simp))) hw.fin.len hi
    omega
   ·simp
  refine⟨_,jB.c0,_,jB.c3,_,trivial,Zlx n d m cS kG hk hd,λv m' css h=>by unfold Ret at h;rw[h];rfl,?_⟩
  rintro n1 b1 m1 aU oL
  simp only[Ret,Value.tuple.injEq,Array.mk.injEq,List.cons.injEq,Value.int.injEq,Value.bool.injEq,true_and,and_true]at oL
  obtain⟨rfl,rfl⟩:=oL
  have dY:=hw.le aU
  have mL:=hc.mono (Zmx aU)
  have nP:=mL.mono (ZgL _ _)
  obtain⟨es1,gP,_⟩:=dY.has
  have dC:=Zm5 fb kb Z root sa s sc n hn hk d i hd hi (λx hx=>ihs x hx i hi) m1 dY
  rw[<-hX]at dC
  refine⟨_,nP.c2,_,nP.c0,_,nP.c3,_,nP.c1,Zns dC ⟨es1,gP⟩ Za3 ?_⟩
  rintro a nn c m2 bC ⟨a',c',hv,aM,cY⟩
  obtain⟨rfl,rfl,rfl⟩:a=a'/\nn=X.length/\c=c':=by simpa using hv
  have dQ:=dY.next bC cY
  have sb:=mL.mono (Zd3 bC)
  rw[fA,List.length_append,List.length_map]
  refine⟨λxs css tvs m' q=>∃j:Nat,j<=X.length/\xs=[.int .i64 (j:Nat),.int .i64 (j:Nat)]/\(but m2 kb).le m'/\HasM m' kb Z root s/\q=X.length - j,⟨_,0,by omega,rfl,ZgL _ _,cY,rfl⟩,?_⟩
  rintro y al m3 ap _ ⟨j,hj,jL,cX,eU,rfl⟩
  simp only[List.cons.injEq,Value.int.injEq,true_and,and_true]at jL
  obtain⟨rfl,rfl⟩:=jL
  have mN:=dQ.next cX eU
  have lT:=sb.mono cX
  obtain⟨es3,dJ,jZ⟩:=eU
  refine Zab (λlQ=>?_) (λcP=>?_)
  ·have aT:j < X.length:=by have:=of_decide_eq_true lQ;omega
   obtain⟨z,hz⟩:∃z,X[j]?=some z:=⟨_,List.getElem?_eq_getElem aT⟩
   have wD:=List.mem_of_getElem? hz
   obtain⟨ru,qU⟩:=tw z wD
   rcases((aM.mono (Zmz dQ.z.1)).mono cX)with h|⟨b,o2,h1,h2⟩
   ·have:X=[]:=by simpa[nsL]using h
    rw[this]at aT;simp at aT
   simp only[Int.toNat_natCast,Nat.mul_one,wr1 (show j<=1000000000000000 by omega)]
   refine⟨b,o2,h1,⟨by omega,by omega⟩,.int .i64 (z:Nat),h2 j _ (by rw[nsL,List.getElem?_map,hz];rfl),Zh0 ru ⟨_,lT.c2,_,lT.c0,Zns (ih5 hk z (hX ▸ wD) m3 mN) ⟨es3,dJ⟩ Za3 ?_⟩⟩
   intro a2 n2 c2' m4 cI hR
   refine⟨⟨by trivial,j,rfl,by omega,Zg2 (by rw[List.getElem?_append_left (by simpa using aT),List.getElem?_map,hz];rfl) hR⟩,_,?_,j+1,by omega,rfl,mLt (Zd3 cX) cI,by obtain⟨_,_,_,_,h⟩:=hR;exact h,rfl⟩
   omega
  ·have:j=X.length:=by have:=of_decide_eq_false cP;omega
   subst this
   obtain⟨_,_,g5',_⟩:=Zg1 (Zbw root mN.fm.rep n hn)
   refine⟨_,lT.c3,_,lT.c0,Zaa rfl (Zaa rfl ⟨_,g5',Zaa rfl (Zab (λhq=>⟨_,lT.c1,Zaa rfl λb2 dW=>⟨⟨by trivial,X.length,rfl,?_,Zjy ?_ ⟨es3,dJ⟩⟩,?_,HasM.le ⟨es3,dJ,jZ⟩ (Mem.le_add dW _)⟩⟩) (λhq=>⟨?_,es3,dJ,jZ⟩))⟩)⟩
   ·have hq':(d:Int) ≥ n.t.mn:=of_decide_eq_true hq
    rw[if_pos hq'];simp
   ·have hq':(d:Int) ≥ n.t.mn:=of_decide_eq_true hq
    rw[if_pos hq',List.getElem?_append_right (by simp)];simp
   ·have hq':(d:Int) ≥ n.t.mn:=of_decide_eq_true hq
    rw[if_pos hq'];simp
   ·have hq':¬(d:Int) ≥ n.t.mn:=of_decide_eq_false hq
    rw[if_neg hq'];simp
 ·exfalso
  simp[RowKit.intOf]at h1 h2 h3 h4 h5 h6
  rcases Zko hg with h|h|h|h|h|h <;> omega
end Go.Proofs.Ytgclajkldphoaaa
set_option linter.unusedVariables false
set_option linter.unusedSimpArgs false
namespace Go.Proofs.Ytgclajkldphoaaa
open Go Go.Eng Go.Rx Go.Proofs Go.RowKit
set_option maxRecDepth 100000
theorem Ztz(a b c a' b' c':Nat):EqIs Try.prog 132 (plK a b c) (plK a' b' c') (decide (a=a'/\b=b'/\c=c')):=by
 have h:=ZrS a b c a' b' c'
 have e:((a:Int) == a'&&(b:Int) == b'&&(c:Int) == c')=decide (a=a'/\b=b'/\c=c'):=by
  rw[Bool.eq_iff_iff]
  simp only[Bool.and_eq_true,beq_iff_eq,decide_eq_true_eq]
  omega
 rw[e]at h;exact h
theorem ZrU(a b c:Nat):Instr.sameBits 10000 (plK a b c) (plK a b c)=true:=by
 rw[show(10000:Nat)=9998+1+1 from rfl]
 generalize (9998:Nat)=n
 simp[Instr.sameBits,plK]
theorem Zm6{B:Mem}{root:Nd}{s:List Nat}(ids:∀x∈root.all,∀y∈root.all,x.id=y.id->x=y){n:Nd}(hn:n∈root.all)(d i:Nat)(z:Value):∀{es:List (Value×Value)},Memo B root s es->
  ∃r,MapFind Try.prog 132 (plK n.id d i) es r/\∀v,r=some v->∃a c,v=.slice a (n.t.ends s d i).length c/\rowRd B a (nsL (n.t.ends s d i))
 | [],_=>⟨none,rfl,λv h=>by cases h⟩
 | e::es,hm=>by
  obtain⟨n',d',i',a,c,h1,rfl,h3⟩:=hm e (by simp)
  have he:=Ztz n.id d i n'.id d' i'
  by_cases hq:n.id=n'.id/\d=d'/\i=i'
  ·rw[decide_eq_true hq]at he
   obtain⟨q1,rfl,rfl⟩:=hq
   obtain rfl:=ids n hn n' h1 q1
   exact⟨_,.inl ⟨he,rfl⟩,λv h=>by cases h;exact⟨a,c,rfl,h3⟩⟩
  ·rw[decide_eq_false hq]at he
   obtain⟨r,h4,h5⟩:=Zm6 ids hn d i z (es:=es) (λe he=>hm e (by simp[he]))
   exact⟨r,.inr ⟨he,h4⟩,h5⟩
theorem Zo7{B:Mem}{root:Nd}{s:List Nat}{n:Nd}(hn:n∈root.all)(d i:Nat){a:Option Addr}{c:Nat}(aM:rowRd B a (nsL (n.t.ends s d i))):∀{es:List (Value×Value)},Memo B root s es->
  ∃es',ZiK Try.prog 132 (plK n.id d i) (.slice a (n.t.ends s d i).length c) es es'/\Memo B root s es'
 | [],_=>⟨_,rfl,λe he=>by
   obtain rfl:e=_:=by simpa using he
   exact⟨n,d,i,a,c,hn,rfl,aM⟩⟩
 | e::es,hm=>by
  obtain⟨n',d',i',a',c',h1,rfl,h3⟩:=hm e (by simp)
  have he:=Ztz n.id d i n'.id d' i'
  by_cases hq:n.id=n'.id/\d=d'/\i=i'
  ·rw[decide_eq_true hq]at he
   obtain⟨q1,rfl,rfl⟩:=hq
   refine⟨_,.inl ⟨he,by rw[<-q1];exact ZrU _ _ _,rfl⟩,λe he=>?_⟩
   rcases List.mem_cons.1 he with rfl|he
   ·exact⟨n,d,i,a,c,hn,rfl,aM⟩
   ·exact hm e (by simp[he])
  ·rw[decide_eq_false hq]at he
   obtain⟨es',h4,h5⟩:=Zo7 hn d i aM (c:=c) (es:=es) (λe he=>hm e (by simp[he]))
   refine⟨_,.inr ⟨he,es',h4,rfl⟩,λe he=>?_⟩
   rcases List.mem_cons.1 he with rfl|he
   ·exact hm _ (by simp)
   ·exact h5 e he
theorem Zqh{s:List Nat}{t:T}{d i:Nat}(h:t.right=true)(bR:∀x∈t.subs,x.right=true)(hs:s.length<=512)(hi:i<=s.length):∀l∈t.lists s d i,l.length<=1000000:=by
 have e0:∀x:T,x.right=true->(x.e0 s i).length<=1000000:=λx hx=>by
  rw[<-Za1]
  have:=ZbT (d:=0) hx hs hi;omega
 have one:∀{l:List Nat} {x:Nat},l∈[[x]]->l.length<=1000000:=λ{l x} hl=>by
  obtain rfl:l=[x]:=by simpa using hl
  simp
 intro l hl
 unfold T.lists at hl
 split at hl
 ·exact one hl
 ·split at hl
  ·split at hl
   ·split at hl
    ·exact one hl
    ·simp at hl
   ·simp at hl
  ·split at hl
   ·obtain rfl:l=_:=by simpa using hl
    cases eP:t.subs with
    | nil=>simp[hd0]
    | cons x r=>simp only[hd0];exact e0 x (bR x (by rw[eP];simp))
   ·split at hl
    ·obtain⟨x,hx,rfl⟩:=List.mem_map.1 hl
     exact e0 x (bR x hx)
    ·split at hl
     ·split at hl
      ·exact one hl
      ·rename_i x hx
       obtain⟨j,hj,rfl⟩:=List.mem_map.1 hl
       have:=ZbT (d:=d+1) h hs (ZbZ s x i hi j hj).2;omega
     ·split at hl
      ·rcases List.mem_append.1 hl with hl|hl
       ·obtain⟨j,hj,rfl⟩:=List.mem_map.1 hl
        obtain⟨_,h2,_⟩:=Zcu hj
        have:=ZbT (d:=Zdd t.mn t.mx d) h hs (Zb2 s t.subs i hi j h2).2;omega
       ·split at hl
        ·exact one hl
        ·simp at hl
      ·simp at hl
theorem Zqi(fb kb:Nat)(Z:Nat->Prop)(root:Nd)(sa:Option Addr)(s:List Nat)(sc:Nat)(n:Nd)(hn:n∈root.all)(d i:Nat)(hd:d<=1000000000000000)(hi:i<=s.length)(kN:n.t.k=3->d<=n.subs.length)
  (ihs:∀x∈n.subs,∀j,j<=s.length->Zkr fb kb Z root sa s sc x 0 j) (ih3:n.t.k=3->d < n.subs.length->∀j,j<=s.length->Zkr fb kb Z root sa s sc n (d+1) j)
  (ih5:n.t.k=5->∀j∈ZdU (hd0 s n.t.subs) n.t.mn n.t.mx d i,Zkr fb kb Z root sa s sc n (Zdd n.t.mn n.t.mx d) j):Zkr fb kb Z root sa s sc n d i:=by
 intro m hw
 have hg:=hw.fin.good n hn
 have cS:=Zbw root hw.fm.rep n hn
 obtain⟨g0,g1,g5,g6,g8,g9,g10⟩:=Zg1 cS
 obtain⟨es,dN,bQ⟩:=hw.has
 have sd:∀x∈n.t.subs,x.right=true:=λx hx=>by
  rw[<-(Zc5.1 cS).2.1.2]at hx
  obtain⟨y,hy,rfl⟩:=List.mem_map.1 hx
  exact hw.fin.good y (ZdP hn hy)
 obtain⟨r,cU,eW⟩:=Zm6 hw.fin.ids hn d i (.slice none 0 0) bQ
 have u5:=Zq5 (d:=d) hg hi
 have gQ:=ZbT (d:=d) hg hw.fin.len hi
 apply ZdZ
 unfold ZcM
 refine⟨_,g8,(n.id:Nat),rfl,λb9=>⟨_,hw.fm.memo,kb,es,_,_,rfl,dN,Zm3 _ _ _,⟨r,cU,rfl,rfl⟩,Zab (λho=>?_) (λho=>⟨_,trivial,ZrT fb n.b d i m,?_,?_⟩)⟩⟩
 ·obtain⟨v,rfl⟩:=Option.isSome_iff_exists.1 ho
  obtain⟨a,c,hv,aM⟩:=eW v rfl
  exact⟨a,c,hv,aM,hw.has⟩
 ·rintro v m' css ⟨c0,c1,c2,c3,h,_⟩;rw[h];rfl
 rintro g fi ca m1 aU ⟨c0,c1,c2,c3,hv,⟨qV,mL,sb,lT⟩,pY,fD,gU,mH⟩
 obtain⟨rfl,rfl,rfl⟩:g=91/\fi=[]/\ca=[.pointer (some ⟨c0,0,none⟩),.pointer (some ⟨c1,0,none⟩),.pointer (some ⟨c2,0,none⟩),.pointer (some ⟨c3,0,none⟩)]:=by
  simpa using hv
 have dY:=hw.le aU
 have gP:=aU.k _ _ dN
 refine⟨_,trivial,Ztw _ [] [.pointer (some ⟨c0,0,none⟩),.pointer (some ⟨c1,0,none⟩),.pointer (some ⟨c2,0,none⟩),.pointer (some ⟨c3,0,none⟩)] m1,?_,?_⟩
 ·rintro v m' css ⟨c,h,_⟩;rw[h];rfl
 rintro g fi ca m2 bC ⟨c,hv,tf,pA⟩
 obtain⟨rfl,rfl,rfl⟩:g=90/\fi=[]/\ca=[.pointer (some ⟨c,0,none⟩)]:=by
  simpa using hv
 have dQ:=dY.le bC
 have qz:=bC.k _ _ gP
 have ne:∀{x:Nat},m.k x=none->x≠kb:=λh e=>by subst e;rw[dN]at h;cases h
 have cT:Cap (but m1 kb) fb n d i c0 c1 c2 c3:=by
  have g:∀{x:Nat} {v:Value},m.k x=none->m1.reads x 0 [v]->but m1 kb x 0=some v:=λh hr=>by
   rw[ZkU (ne h)];exact hr 0 _ rfl
  exact⟨g pY qV,g fD mL,g gU sb,g mH lT⟩
 have qA:∀m3:Mem,m2.le m3->IXY Try.prog 91 [] [.pointer (some ⟨c0,0,none⟩),.pointer (some ⟨c1,0,none⟩),.pointer (some ⟨c2,0,none⟩),.pointer (some ⟨c3,0,none⟩)] m3 (λb=>b=kb) (n.t.lists s d i).length (Zsg (n.t.lists s d i) kb) (λm'=>HasM m' kb Z root s):=λm3 cJ=>
  Zqg fb kb Z root sa s sc n hn d i hd hi kN ihs ih3 ih5 m3 (dQ.le cJ) c0 c1 c2 c3 (cT.mono (Zmx (mLt bC cJ)))
 have se:=ZrR 91 [] [.pointer (some ⟨c0,0,none⟩),.pointer (some ⟨c1,0,none⟩),.pointer (some ⟨c2,0,none⟩),.pointer (some ⟨c3,0,none⟩)] c m2 kb (n.t.lists s d i) (by rw[<-u5];omega) (Zqh hg sd hw.fin.len hi) (λm'=>HasM m' kb Z root s) (λa b kL h=>h.le kL) ⟨es,qz⟩ tf qA
 have sf:=Zm2 90 [] [.pointer (some ⟨c,0,none⟩)] m2 kb Z dQ.z (ddp (n.t.lists s d i).flatten) (by rw[<-u5];omega) (λm'=>HasM m' kb Z root s) (λa b kL h=>h.le kL) ⟨es,qz⟩ se
 rw[<-u5]at sf
 refine Zns sf ⟨es,qz⟩ (λv m' css tvs ⟨a,c,h,_⟩=>by rw[h];rfl) ?_
 rintro a nn c' m3 cJ ⟨a',c2',hv,aM,cY⟩
 obtain⟨rfl,rfl,rfl⟩:a=a'/\nn=(n.t.ends s d i).length/\c'=c2':=by simpa using hv
 have mN:=dQ.next cJ cY
 obtain⟨es3,dJ,jZ⟩:=cY
 obtain⟨es',gK,sg⟩:=Zo7 hn d i aM (c:=c') jZ
 refine⟨_,mN.fm.memo,kb,es3,es',rfl,dJ,Zm3 _ _ _,gK,ZkV,a,c',rfl,aM,es',Mem.updK_same _ _ _,sg⟩
def Zv8(s:List Nat)(n:Nd)(d i:Nat):Nat:=if n.t.k=3 then n.subs.length - d else mR s.length n.t.mn n.t.mx d i
theorem ZrV(fb kb:Nat)(Z:Nat->Prop)(root:Nd)(sa:Option Addr)(s:List Nat)(sc:Nat)(kA:∀x∈root.all,x.t.right=true):∀(N:Nat)(n:Nd),SizeOf.sizeOf n < N->n∈root.all->∀d i,d<=1000000000000000->i<=s.length->(n.t.k=3->d<=n.subs.length)->n.subs.length<=1000000000000000->Zkr fb kb Z root sa s sc n d i:=by
 intro N
 induction N with
 | zero=>intro n h;omega
 | succ N ihN=>
  intro n hN hn d i hd hi kN gQ
  have hg:=kA n hn
  have kG:=Zdw hg
  have inner:∀(K d i:Nat),Zv8 s n d i < K->d<=1000000000000000->i<=s.length->(n.t.k=3->d<=n.subs.length)->Zkr fb kb Z root sa s sc n d i:=by
   intro K
   induction K with
   | zero=>intro d i h;omega
   | succ K ihK=>
    intro d i hK hd hi kN
    intro m hw
    have few:∀x∈root.all,x.subs.length<=1000000000000000:=λx hx=>Zqf (Zbw root hw.fin.rep x hx)
    refine Zqi fb kb Z root sa s sc n hn d i hd hi kN (λx hx j hj=>ihN x (by have:=ZuS hx;omega) (ZdP hn hx) 0 j (by omega) hj (λ_=>Nat.zero_le _) (few x (ZdP hn hx))) (λh3 aN j hj=>ihK (d+1) j ?_ (by omega) hj (λ_=>aN)) (λh5 j hj=>?_) m hw
    ·unfold Zv8 at hK ⊢
     rw[if_pos h3]at hK ⊢
     omega
    ·obtain⟨q1,q2,q3⟩:=Zcu hj
     obtain⟨q4,q5⟩:=Zb2 s n.t.subs i hi j q2
     obtain⟨b1,b2,b3⟩:=kG h5
     have:=Zs1 (len:=s.length) b1 (b3.imp id λh=>h.2.1) q1 ⟨q4,q5⟩ q3
     refine ihK _ j ?_ ?_ q5 (λh=>by omega)
     ·unfold Zv8 at hK ⊢
      rw[if_neg (by omega)]at hK ⊢
      omega
     ·unfold Zdd
      unfold Zjf at q1
      simp only[Bool.or_eq_true,beq_iff_eq,decide_eq_true_eq]at q1
      split <;> omega
  exact inner _ d i (Nat.lt_succ_self _) hd hi kN
theorem Zhz(fb kb:Nat)(Z:Nat->Prop)(root:Nd)(sa:Option Addr)(s:List Nat)(sc:Nat)(n:Nd)(hn:n∈root.all)(d i:Nat)(hd:d<=1000000000000000)(hi:i<=s.length)(kN:n.t.k=3->d<=n.subs.length):Zkr fb kb Z root sa s sc n d i:=λm hw=>
 ZrV fb kb Z root sa s sc hw.fin.good _ n (Nat.lt_succ_self _) hn d i hd hi kN (Zqf (Zbw root hw.fin.rep n hn)) m hw
end Go.Proofs.Ytgclajkldphoaaa
set_option linter.unusedVariables false
set_option linter.unusedSimpArgs false
namespace Go.Proofs.Ytgclajkldphoaaa
open Go Go.Eng Go.Rx Go.Proofs Go.RowKit
set_option maxRecDepth 100000
theorem Zuu{P:Program}{g:FuncId}{args:Array Value}{m m0:Mem}{kb:Nat}{R0:RTY}{K:Bool->Mem->Prop}{E:Nat->Prop}(h:CXY P g args m (λb=>b=kb) [] [] R0)(hk:∃es,m.k kb=some es)(hE:E kb)(hf:∀(v:Value)(m':Mem) (css:List (List Value)) (tvs:List Value),R0 v m' css tvs->Shape.fits Shape.bool v=true)
  (k:∀b m',(but m kb).le m'->R0 (.bool b) m' [] []->K b m'):
  ∃(Y:Nat->Prop),∃(R:Value->Mem->List (List Value)->List Value->Prop),CXY P g args m Y [] [] R/\(∀(t:Tok),t∈[]->∀(b:Nat),t.blk=some b->Y b)/\
   (∀(b:Nat),Y b->(∃(t:Tok),t∈[]/\t.blk=some b)\/(Mem.free (but m0 kb) b/\Mem.k (but m0 kb) b=none)/\((∃(o:Nat),∃(v:Value),m b o=some v)\/∃(e:List (Value×Value)),Mem.k m b=some e)/\E b)/\
   (∀(v:Value)(m':Mem) (css:List (List Value)) (tvs:List Value),R v m' css tvs->Shape.fits Shape.bool v=true)/\
   ∀(b:Bool)(m':Mem),Mem.le (Mem.off m Y) m'->(NewM m m' λ(b:Nat)=>Y b\/Mem.free m b)->R (.bool b) m' [] []->K b m':=
 ⟨λb=>b=kb,R0,h,by simp,λb hb=>.inr ⟨by subst hb;exact⟨Zjg,ZkV⟩,.inr (by subst hb;exact hk),by subst hb;exact hE⟩,hf,λb m' h1 _ h2=>k b m' h1 h2⟩
theorem Zuv{P:Program}{g:FuncId}{args:Array Value}{m m0:Mem}{kb:Nat}{R0:RTY}{K:Int->Mem->Prop}{E:Nat->Prop}(h:CXY P g args m (λb=>b=kb) [] [] R0)(hk:∃es,m.k kb=some es)(hE:E kb)(hf:∀(v:Value)(m':Mem) (css:List (List Value)) (tvs:List Value),R0 v m' css tvs->Shape.fits (Shape.int .i64) v=true)
  (k:∀b m',(but m kb).le m'->R0 (.int .i64 b) m' [] []->K b m'):
  ∃(Y:Nat->Prop),∃(R:Value->Mem->List (List Value)->List Value->Prop),CXY P g args m Y [] [] R/\(∀(t:Tok),t∈[]->∀(b:Nat),t.blk=some b->Y b)/\
   (∀(b:Nat),Y b->(∃(t:Tok),t∈[]/\t.blk=some b)\/(Mem.free (but m0 kb) b/\Mem.k (but m0 kb) b=none)/\((∃(o:Nat),∃(v:Value),m b o=some v)\/∃(e:List (Value×Value)),Mem.k m b=some e)/\E b)/\
   (∀(v:Value)(m':Mem) (css:List (List Value)) (tvs:List Value),R v m' css tvs->Shape.fits (Shape.int .i64) v=true)/\
   ∀(b:Int)(m':Mem),Mem.le (Mem.off m Y) m'->(NewM m m' λ(b:Nat)=>Y b\/Mem.free m b)->R (.int .i64 b) m' [] []->K b m':=
 ⟨λb=>b=kb,R0,h,by simp,λb hb=>.inr ⟨by subst hb;exact⟨Zjg,ZkV⟩,.inr (by subst hb;exact hk),by subst hb;exact hE⟩,hf,λb m' h1 _ h2=>k b m' h1 h2⟩
theorem Zog(fb kb:Nat)(Z:Nat->Prop)(root:Nd)(sa:Option Addr)(s:List Nat)(sc:Nat)(n:Nd)(hn:n∈root.all)(d j to:Nat)(hd:d<=1000000000000000)(hj:j<=s.length)(kN:n.t.k=3->d<=n.subs.length)(m:Mem)(hw:Wk m fb kb Z root sa s sc)(c0 c1 c2 c3:Nat)
  (g0:but m kb c0 0=some (.pointer (some ⟨fb,0,none⟩))) (g1:but m kb c1 0=some (.pointer (some ⟨n.b,0,none⟩))) (g2:but m kb c2 0=some (.int .i64 (d:Nat))) (g3:but m kb c3 0=some (.int .i64 (to:Nat))):
  CXY Try.prog 94 #[.int .i64 (j:Nat),.pointer (some ⟨c0,0,none⟩),.pointer (some ⟨c1,0,none⟩),.pointer (some ⟨c2,0,none⟩),.pointer (some ⟨c3,0,none⟩)] m (λb=>b=kb) [] [] (λv m' _ _=>v=.bool (decide (to∈n.t.ends s d j))/\HasM m' kb Z root s):=by
 obtain⟨es,dN,_⟩:=hw.has
 apply Zc9
 unfold Zb4
 refine⟨_,g0,_,g1,_,g2,_,g3,Zns (Zhz fb kb Z root sa s sc n hn d j hd hj kN m hw) ⟨es,dN⟩ Za3 ?_⟩
 rintro a nn c m1 aU ⟨a',c',hv,aM,cY⟩
 obtain⟨rfl,rfl,rfl⟩:a=a'/\nn=(n.t.ends s d j).length/\c=c':=by simpa using hv
 refine⟨_,trivial,Zdv _ a c to m1 (aM.mono (Mem.off_le _ _)) ?_,λv m' css h=>by unfold Ret at h;rw[h];rfl,?_⟩
 ·have:=ZbT (d:=d) (hw.fin.good n hn) hw.fin.len hj;omega
 rintro b m2 bC hR
 exact⟨hR,cY.le bC⟩
theorem ZtA{α:Type}{p:α->Bool}{l:List α}{j:Nat}{x:α}(h:l[j]?=some x)(gW:∀y∈l.take j,p y=false)(hx:p x=true):l.find? p=some x:=by
 have e:l=l.take (j+1)++l.drop (j+1):=(List.take_append_drop _ _).symm
 rw[Zck h]at e
 rw[e,List.append_assoc,List.find?_append,List.find?_eq_none.2 (λy hy=>by simp[gW y hy])]
 simp[hx]
theorem Zjz(g:Nat)(fi ca:List Value)(X:List Nat)(p:Nat->Bool)(a:Option Addr)(c:Nat)(m:Mem)(kb:Nat)(hX:X.length<=1000000)(RI:Mem->Prop)(yf:RI m)(hk:∀m',RI m'->∃es,m'.k kb=some es)(aM:rowRd (but m kb) a (nsL X))
  (yg:∀m',(but m kb).le m'->RI m'->∀x∈X,CXY Try.prog g ((fi++[Value.int .i64 (x:Nat)])++ca).toArray m' (λb=>b=kb) [] [] (λv m' _ _=>v=.bool (p x)/\RI m')):
  CXY Try.prog 93 #[.slice a X.length c,.func (.func g) fi.toArray ca.toArray] m (λb=>b=kb) [] [] (λv m' _ _=>((∃(i x:Nat),v=.int .i64 (i:Nat)/\X[i]?=some x/\X.find? p=some x)\/(v=.int .i64 (-1)/\X.find? p=none))/\RI m'):=by
 apply ZbJ
 unfold Zbb
 refine⟨λxs css tvs m' q=>∃j:Nat,j<=X.length/\xs=[.int .i64 (j:Nat)]/\(but m kb).le m'/\RI m'/\(∀y∈X.take j,p y=false)/\q=X.length - j,⟨_,0,by omega,rfl,ZgL _ _,yf,by simp,rfl⟩,?_⟩
 rintro y m3 q _ ⟨j,hj,cH,bO,hR,gW,rfl⟩
 obtain rfl:y=j:=by simpa using cH
 refine Zab (λaN=>?_) (λcP=>?_)
 ·have aT:j < X.length:=by have:=of_decide_eq_true aN;omega
  obtain⟨x,hx⟩:∃x,X[j]?=some x:=⟨_,List.getElem?_eq_getElem aT⟩
  have fP:=List.mem_of_getElem? hx
  rcases aM.mono bO with h|⟨b,o,h1,h2⟩
  ·have:X=[]:=by simpa[nsL]using h
   rw[this]at aT;simp at aT
  simp only[Int.toNat_natCast,Nat.mul_one,wr1 (show j<=1000000000000000 by omega)]
  refine⟨b,o,h1,⟨by omega,by omega⟩,.int .i64 (x:Nat),h2 j _ (by rw[nsL,List.getElem?_map,hx];rfl),Zuu (yg m3 bO hR x fP) (hk m3 hR) trivial (λv m' css tvs h=>by rw[h.1];rfl) ?_⟩
  rintro b2 m4 cI ⟨hb,wE⟩
  obtain rfl:b2=p x:=by simpa using hb
  refine Zab (λhp=>⟨.inl ⟨j,x,rfl,hx,ZtA hx gW hp⟩,wE⟩) (λhp=>⟨_,?_,j+1,by omega,rfl,mLt (Zd3 bO) cI,wE,?_,rfl⟩)
  ·omega
  ·rw[Zck hx]
   intro y hy
   rcases List.mem_append.1 hy with hy|hy
   ·exact gW y hy
   ·obtain rfl:y=x:=by simpa using hy
    exact hp
 ·have:j=X.length:=by have:=of_decide_eq_false cP;omega
  subst this
  rw[List.take_length]at gW
  exact⟨.inr ⟨rfl,List.find?_eq_none.2 λy hy=>by simp[gW y hy]⟩,hR⟩
def Zuw(s:List Nat)(t:T)(d to:Nat)(X:List Nat):Option Nat:=X.find? λj=>decide (to∈t.ends s d j)
def Zu7:Option Nat->Int
 | some x=>(x:Int)
 | none=>-1
theorem Zm7(fb kb:Nat)(Z:Nat->Prop)(root:Nd)(sa:Option Addr)(s:List Nat)(sc:Nat)(n:Nd)(hn:n∈root.all)(d to:Nat)(hd:d<=1000000000000000)(kN:n.t.k=3->d<=n.subs.length)(X:List Nat)(hX:∀j∈X,j<=s.length)(r7:X.length<=1000000)(a:Option Addr)(c:Nat)(m:Mem)(hw:Wk m fb kb Z root sa s sc)(aM:rowRd (m.off Z) a (nsL X)):
  CXY Try.prog 74 #[.pointer (some ⟨fb,0,none⟩),.slice a X.length c,.pointer (some ⟨n.b,0,none⟩),.int .i64 (d:Nat),.int .i64 (to:Nat)] m (λb=>b=kb) [] [] (λv m' _ _=>v=.int .i64 (Zu7 (Zuw s n.t d to X))/\HasM m' kb Z root s):=by
 obtain⟨es,dN,bQ⟩:=hw.has
 apply ZdF
 unfold Zcw
 intro b0 m1 aU yh Au _ pY b1 m2 bC dZ mW _ fD b2 m3 cJ dW iP _ gU b3 m4 cI jC qu _ mH
 have l14:=mLt bC (mLt cJ cI)
 have l24:=mLt cJ cI
 have l04:=mLt aU l14
 have n0:b0≠kb:=λe=>by subst e;rw[dN]at pY;cases pY
 have n1:b1≠kb:=λe=>by subst e;rw[aU.k _ _ dN]at fD;cases fD
 have n2:b2≠kb:=λe=>by subst e;rw[(mLt aU bC).k _ _ dN]at gU;cases gU
 have n3:b3≠kb:=λe=>by subst e;rw[(mLt aU (mLt bC cJ)).k _ _ dN]at mH;cases mH
 have nM:=hw.le l04
 have cell:∀{b:Nat} {v:Value},b≠kb->m4.reads b 0 [v]->but m4 kb b 0=some v:=λh1 h2=>by rw[ZkU h1];exact h2 0 _ rfl
 have g0:=cell n0 (yh.mono l14)
 have g1:=cell n1 (dZ.mono l24)
 have g2:=cell n2 (dW.mono cI)
 have g3:=cell n3 jC
 have bP:rowRd (but m4 kb) a (nsL X):=(aM.mono (ZeR l04)).mono (Zmz hw.z.1)
 refine Zuv (Zjz 94 [] [.pointer (some ⟨b0,0,none⟩),.pointer (some ⟨b1,0,none⟩),.pointer (some ⟨b2,0,none⟩),.pointer (some ⟨b3,0,none⟩)] X (λj=>decide (to∈n.t.ends s d j)) a c m4 kb r7 (λm'=>HasM m' kb Z root s) nM.has (λm' ⟨es,h,_⟩=>⟨es,h⟩) bP ?_) ⟨es,l04.k _ _ dN⟩ ⟨n3,n2,n1,n0,trivial⟩ ?_ ?_
 ·intro m5 eT hh x hx
  have qZ:=Zd3 eT
  exact Zog fb kb Z root sa s sc n hn d x to hd (hX x hx) kN m5 (nM.next eT hh) b0 b1 b2 b3 (qZ.c _ _ _ g0) (qZ.c _ _ _ g1) (qZ.c _ _ _ g2) (qZ.c _ _ _ g3)
 ·rintro v m' css tvs ⟨⟨i,x,h,_⟩|⟨h,_⟩,_⟩ <;> (rw[h];rfl)
 rintro z m5 eT ⟨h,hh⟩
 rcases h with⟨i,x,h,hx,iM⟩|⟨h,iM⟩
 ·obtain rfl:z=i:=by simpa using h
  refine Zha (by simp) ?_
  have aN:=(List.getElem?_eq_some_iff.1 hx).1
  rcases bP.mono eT with h|⟨b,o,h1,h2⟩
  ·have:X=[]:=by simpa[nsL]using h
   rw[this]at aN;simp at aN
  refine⟨b,o,h1,⟨by omega,by omega⟩,.int .i64 (x:Nat),by simp only[Int.toNat_natCast,Nat.mul_one];exact h2 i _ (by rw[nsL,List.getElem?_map,hx];rfl),?_,hh⟩
  unfold Zuw;rw[iM];rfl
 ·obtain rfl:z=-1:=by simpa using h
  refine Zh0 (by decide) ⟨?_,hh⟩
  unfold Zuw;rw[iM];rfl
end Go.Proofs.Ytgclajkldphoaaa
set_option linter.unusedVariables false
set_option linter.unusedSimpArgs false
namespace Go.Proofs.Ytgclajkldphoaaa
open Go Go.Eng Go.Rx Go.Proofs Go.RowKit
set_option maxRecDepth 100000
theorem Znt{P:Program}{g:FuncId}{args:Array Value}{m m0:Mem}{Y Y0:Nat->Prop}{R0:RTY}{sh:Shape}{E:Nat->Prop}{Kf:(Nat->Prop)->RTY->Prop}(h:CXY P g args m Y [] [] R0)(hY:∀b,Y b->Y0 b/\((∃(o:Nat),∃(v:Value),m b o=some v)\/∃(e:List (Value×Value)),Mem.k m b=some e)/\E b)(hf:∀(v:Value)(m':Mem) (css:List (List Value)) (tvs:List Value),R0 v m' css tvs->Shape.fits sh v=true)(k:Kf Y R0):
  ∃(Y:Nat->Prop),∃(R:Value->Mem->List (List Value)->List Value->Prop),CXY P g args m Y [] [] R/\(∀(t:Tok),t∈[]->∀(b:Nat),t.blk=some b->Y b)/\
   (∀(b:Nat),Y b->(∃(t:Tok),t∈[]/\t.blk=some b)\/(Mem.free (m0.off Y0) b/\Mem.k (m0.off Y0) b=none)/\((∃(o:Nat),∃(v:Value),m b o=some v)\/∃(e:List (Value×Value)),Mem.k m b=some e)/\E b)/\
   (∀(v:Value)(m':Mem) (css:List (List Value)) (tvs:List Value),R v m' css tvs->Shape.fits sh v=true)/\Kf Y R:=
 ⟨Y,R0,h,by simp,λb hb=>.inr ⟨⟨Mem.off_free (hY b hb).1,Mem.off_kn (hY b hb).1⟩,(hY b hb).2⟩,hf,k⟩
structure St (fb kb:Nat)(root:Nd)(sa:Option Addr)(s:List Nat)(sc:Nat)(pa:Option Addr)(pc np:Nat)(m:Mem)(P:PL):Prop where
 wk:Wk m fb kb (Zp kb pa) root sa s sc
 pt:PtAt m pa P
 len:P.length=np
 parts:(m.off (Zp kb pa)) fb 2=some (.slice pa np pc)
 nk:∀b,pa=some ⟨b,0,none⟩->b≠kb
theorem St.step{fb kb:Nat}{root:Nd}{sa:Option Addr}{s:List Nat}{sc:Nat}{pa:Option Addr}{pc np:Nat}{m m':Mem}{P:PL}(h:St fb kb root sa s sc pa pc np m P)(hm:(but m kb).le m')(hh:HasM m' kb (Zp kb pa) root s):St fb kb root sa s sc pa pc np m' P:=
 ⟨h.wk.next hm hh,(h.pt.but h.nk).mono hm,h.len,(ZqM h.wk.z.1 hm).c _ _ _ h.parts,h.nk⟩
theorem St.le{fb kb:Nat}{root:Nd}{sa:Option Addr}{s:List Nat}{sc:Nat}{pa:Option Addr}{pc np:Nat}{m m':Mem}{P:PL}(h:St fb kb root sa s sc pa pc np m P)(hm:m.le m'):St fb kb root sa s sc pa pc np m' P:=
 h.step (mLt (ZgL _ _) hm) (h.wk.has.le hm)
theorem ZrW{m':Mem}{kb:Nat}{pa:Option Addr}{P':PL}(hp:PtAt m' pa P'):ZOk m' kb (Zp kb pa):=⟨.inl rfl,λb hb=>by
 rcases hb with hb|hb
 ·exact .inl hb
 rcases hp with⟨_,h⟩|⟨b',h1,h2,h3⟩
 ·rw[h]at hb;cases hb
 ·rw[h1]at hb;cases hb
  cases P' with
  | nil=>exact absurd rfl h3
  | cons p l=>exact .inr ⟨_,(h2 0 p rfl).1⟩⟩
theorem St.walk{fb kb:Nat}{root:Nd}{sa:Option Addr}{s:List Nat}{sc:Nat}{pa:Option Addr}{pc np:Nat}{m m':Mem}{P P':PL}(h:St fb kb root sa s sc pa pc np m P)(hm:(m.off (Zp kb pa)).le m')(hh:HasM m' kb (Zp kb pa) root s)(hp:PtAt m' pa P')(hl:P'.length=P.length):St fb kb root sa s sc pa pc np m' P':=
 ⟨⟨h.wk.fin.mono (ZmA hm),hh,ZrW hp⟩,hp,hl.trans h.len,(ZmA hm).c _ _ _ h.parts,h.nk⟩
theorem St.upd{fb kb:Nat}{root:Nd}{sa:Option Addr}{s:List Nat}{sc:Nat}{pa:Option Addr}{pc np:Nat}{m:Mem}{P:PL}(h:St fb kb root sa s sc pa pc np m P){b g:Nat}{x y:Int}(hb:pa=some ⟨b,0,none⟩)(hg:g < P.length):St fb kb root sa s sc pa pc np (m.upd b (0+g*2) [.int .i64 x,.int .i64 y]) (P.set g (x,y)):=by
 have hp:=h.pt.upd hb hg (x:=x) (y:=y)
 have qB:(m.off (Zp kb pa)).le ((m.upd b (0+g*2) [.int .i64 x,.int .i64 y]).off (Zp kb pa)):=Zs6 (.inr hb)
 obtain⟨es,h1,h2⟩:=h.wk.has
 exact⟨⟨h.wk.fin.mono qB,⟨es,h1,h2.mono qB⟩,ZrW hp⟩,hp,by simp[h.len],qB.c _ _ _ h.parts,h.nk⟩
theorem St.zin{fb kb:Nat}{root:Nd}{sa:Option Addr}{s:List Nat}{sc:Nat}{pa:Option Addr}{pc np:Nat}{m:Mem}{P:PL}(h:St fb kb root sa s sc pa pc np m P):∀b,Zp kb pa b->Zp kb pa b/\((∃(o:Nat),∃(v:Value),m b o=some v)\/∃(e:List (Value×Value)),Mem.k m b=some e)/\True:=λb hb=>by
 refine⟨hb,?_,trivial⟩
 rcases h.wk.z.2 b hb with rfl|⟨v,hv⟩
 ·obtain⟨es,h1,_⟩:=h.wk.has
  exact .inr ⟨es,h1⟩
 ·exact .inl ⟨0,v,hv⟩
theorem St.kin{fb kb:Nat}{root:Nd}{sa:Option Addr}{s:List Nat}{sc:Nat}{pa:Option Addr}{pc np:Nat}{m:Mem}{P:PL}(h:St fb kb root sa s sc pa pc np m P):∀b,b=kb->Zp kb pa b/\((∃(o:Nat),∃(v:Value),m b o=some v)\/∃(e:List (Value×Value)),Mem.k m b=some e)/\True:=λb hb=>h.zin b (.inl hb)
def Zu0(kb:Nat)(pa:Option Addr)(root:Nd)(s:List Nat)(Q:PL×Nat):RTY:=λv m' _ _=>v=.int .i64 (Q.2:Nat)/\HasM m' kb (Zp kb pa) root s/\PtAt m' pa Q.1
theorem Zdx{kb:Nat}{pa:Option Addr}{root:Nd}{s:List Nat}{Q:PL×Nat}:∀(v:Value)(m':Mem) (css:List (List Value)) (tvs:List Value),Zu0 kb pa root s Q v m' css tvs->Shape.fits (Shape.int .i64) v=true:=λv _ _ _ ⟨h,_⟩=>by rw[h];rfl
def Zt7(fb kb:Nat)(root:Nd)(sa:Option Addr)(s:List Nat)(sc:Nat)(pa:Option Addr)(pc np:Nat)(x:Nd):Prop:=
 ∀g,x.num g->g+x.t.ngr<=np->∀i to,i<=s.length->to∈x.t.e0 s i->∀m P,St fb kb root sa s sc pa pc np m P->
  CXY Try.prog 46 #[.pointer (some ⟨fb,0,none⟩),.pointer (some ⟨x.b,0,none⟩),.int .i64 (i:Nat),.int .i64 (to:Nat)] m (Zp kb pa) [] [] (Zu0 kb pa root s (x.t.wk s g i to P))
theorem Zks{Q:Option Nat}{kb:Nat}{Z:Nat->Prop}{root:Nd}{s:List Nat}:∀(v:Value)(m':Mem) (css:List (List Value)) (tvs:List Value),(v=.int .i64 (Zu7 Q)/\HasM m' kb Z root s)->Shape.fits (Shape.int .i64) v=true:=λv _ _ _ ⟨h,_⟩=>by rw[h];rfl
theorem Zvr(fb kb:Nat)(root:Nd)(sa:Option Addr)(s:List Nat)(sc:Nat)(pa:Option Addr)(pc np:Nat)(n:Nd)(hn:n∈root.all)(ih:∀x∈n.subs,Zt7 fb kb root sa s sc pa pc np x):Zt7 fb kb root sa s sc pa pc np n:=by
 intro g nQ mM i to hi lU m P cQ
 have hw:=cQ.wk
 have hg:=hw.fin.good n hn
 have kG:=Zdw hg
 have cS:=Zbw root hw.fm.rep n hn
 obtain⟨g0,g1,g5,g6,g8,g9,g10⟩:=Zg1 cS
 have aX:=Zqe cS
 have gQ:=Zqf cS
 rw[Zs5]at nQ
 obtain⟨u6,dK⟩:=nQ
 rw[Zs3]at mM
 have ends0:∀x∈n.subs,∀j,j<=s.length->Zkr fb kb (Zp kb pa) root sa s sc x 0 j:=λx hx j hj=>Zhz fb kb (Zp kb pa) root sa s sc x (ZdP hn hx) 0 j (by omega) hj (λ_=>Nat.zero_le _)
 have oneSub:n.t.k=5\/n.t.k=6->∃x,n.subs=[x]/\n.t.subs=[x.t]:=λh=>by
  obtain⟨x0,jO⟩:∃x,n.t.subs=[x]:=by
   rcases Zko hg with h'|h'|h'|h'|h'|h' <;> first|omega|exact h'.2.1|exact h'.2
  have hl:=aX
  rw[jO]at hl
  match bR:n.subs,hl with
  | [x],_=>
   have:=ZuY cS (j:=0) (x:=x) (by rw[bR];rfl)
   rw[jO]at this
   simp at this
   exact⟨x,rfl,by rw[jO,this]⟩
 obtain⟨Q,hQ⟩:∃Q,Q=n.t.wk s g i to P:=⟨_,rfl⟩
 rw[<-hQ]
 rw[Zvj]at hQ
 apply ZdX
 unfold ZcL
 refine⟨_,g0,Zaa rfl (Zab (λh6=>?_) (λh6=>Zaa rfl (Zab (λh4=>?_) (λh4=>Zaa rfl (Zab (λh3=>?_) (λh3=>Zaa rfl (Zab (λh5=>?_) (λh5=>?_))))))))⟩
 ·
  have hk:n.t.k=6:=by simpa[RowKit.intOf]using h6
  obtain⟨x,cH,gZ⟩:=oneSub (.inr hk)
  have fP:x∈n.subs:=by rw[cH];simp
  have kS:=u6 hk
  rw[if_pos hk,gZ]at hQ
  rw[if_pos hk,gZ]at mM
  rw[if_pos hk,cH]at dK
  have dK:x.num (g+1):=dK.1
  have lU:to∈x.t.e0 s i:=by
   rw[<-Za1]at lU
   unfold T.ends at lU
   rw[if_neg (by omega),if_neg (by omega)]at lU
   have e:n.t.e0 s i=ddp (hd0 s n.t.subs i):=by
    cases hT:n.t with
    | node k s0 s1 s2 s3 mn mx a c l=>
     rw[hT]at hk
     have hk:k=6:=hk
     subst hk
     simp[T.e0,T.subs]
   rw[e,ZgK,gZ]at lU
   simpa[hd0]using lU
  have tx:g < P.length:=by rw[cQ.len];omega
  obtain⟨pb,rm,cD⟩:∃b,pa=some ⟨b,0,none⟩/\∀q p,P[q]?=some p->m b (q*2)=some (.int .i64 p.1)/\m b (q*2+1)=some (.int .i64 p.2):=by
   rcases cQ.pt with⟨h,_⟩|⟨b,h1,h2,_⟩
   ·rw[h]at tx;simp at tx
   ·exact⟨b,h1,h2⟩
  have yi:=(Mem.off_le _ _).c _ _ _ cQ.parts
  have qC:=cQ.upd rm tx (x:=(i:Int)) (y:=(to:Int))
  have oO:=Zbw root qC.wk.fm.rep n hn
  obtain⟨_,_,_,_,_,_,g10'⟩:=Zg1 oO
  obtain⟨b0,o,ha,hp⟩:=Zjx oO (j:=0) (x:=x) (by rw[cH];rfl)
  refine⟨_,yi,_,g9,Zaa rfl (Zaa rfl ⟨pb,0,rm,⟨by simp[RowKit.intOf],?_⟩,?_,Mem.off_free (.inr rm),rfl,?_⟩)⟩
  ·simp only[RowKit.intOf,slN,kS];have:=cQ.len;omega
  ·obtain⟨p,eX⟩:∃p,P[g]?=some p:=⟨_,List.getElem?_eq_getElem tx⟩
   refine⟨[.int .i64 p.1,.int .i64 p.2],rfl,?_⟩
   obtain⟨h1,h2⟩:=cD g p eX
   simp only[RowKit.intOf,Int.toNat_natCast,kS,Nat.zero_add]
   intro j v hj
   have aN:j < 2:=(List.getElem?_eq_some_iff.1 hj).1
   have:j=0\/j=1:=by omega
   rcases this with rfl|rfl <;> (cases hj;assumption)
  ·simp only[RowKit.intOf,Int.toNat_natCast,kS]
   refine⟨_,g10',Zaa rfl ⟨b0,o,ha,⟨by omega,by simp[slN,cH]⟩,_,hp,Znt (ih x fP (g+1) dK (by rw[ZdJ,ZdJ]at mM;omega) i to hi lU _ _ qC) qC.zin Zdx ?_⟩⟩
   rintro z m3 cJ _ ⟨_,hh,gR⟩
   refine⟨by rw[hQ];rfl,hh,?_⟩
   rw[hQ];exact gR
 ·
  have hk:n.t.k=4:=by simpa[RowKit.intOf]using h4
  rw[if_neg (by omega),if_pos hk]at hQ
  rw[if_neg (by omega),Nat.zero_add]at mM
  rw[if_neg (by omega),Nat.add_zero]at dK
  refine⟨_,g10,Zaa rfl ⟨λxs css tvs m' q=>∃(j gj:Nat),j<=n.subs.length/\xs=[.int .i64 (j:Nat)]/\St fb kb root sa s sc pa pc np m' P/\Q=(Zqq s (n.t.subs.drop j) gj i to P,0)/\Zs4 (n.subs.drop j) gj/\gj+ZdJ (n.t.subs.drop j)<=np/\q=n.subs.length - j,⟨_,0,g,by omega,rfl,cQ,hQ,dK,mM,rfl⟩,?_⟩⟩
  rintro y m3 q _ ⟨j,gj,hj,cH,dH,eK,lV,si,rfl⟩
  obtain rfl:y=j:=by simpa using cH
  refine Zab (λaN=>?_) (λcP=>?_)
  ·have aT:j < n.subs.length:=by have:=of_decide_eq_true aN;simp only[slN]at this;omega
   obtain⟨x,hx⟩:∃x,n.subs[j]?=some x:=⟨_,List.getElem?_eq_getElem aT⟩
   have fP:=List.mem_of_getElem? hx
   have eJ:x.t.right=true:=hw.fin.good x (ZdP hn fP)
   have gZ:=ZuY cS hx
   rw[Zmp gZ]at eK si
   obtain⟨tz,lW⟩:=ZoX lV hx
   rw[ZdJ]at si
   have fK:=Zbw root dH.wk.fm.rep n hn
   obtain⟨b0,o,ha,hp⟩:=Zjx fK hx
   simp only[Int.toNat_natCast,Nat.mul_one,wr1 (show j<=1000000000000000 by omega)]
   refine Zaa rfl ⟨b0,o,ha,⟨by omega,by simp only[slN];omega⟩,_,hp,Znt (ends0 x fP i hi m3 dH.wk) dH.kin Za3 ?_⟩
   rintro a nn c m4 cI _ ⟨a',c',hv,aM,cY⟩
   obtain⟨rfl,rfl,rfl⟩:a=a'/\nn=(x.t.ends s 0 i).length/\c=c':=by simpa using hv
   have dR:=dH.step cI cY
   refine⟨_,trivial,Zdv _ a c to m4 (aM.mono (Mem.off_le _ _)) (by have:=ZbT (d:=0) eJ hw.fin.len hi;omega),λv m' css h=>by unfold Ret at h;rw[h];rfl,?_⟩
   rintro b m5 eT hR
   obtain rfl:b=decide (to∈x.t.ends s 0 i):=by simpa[Ret]using hR
   have fM:=dR.le eT
   rw[Za1]
   simp only[Zqq]at eK
   refine Zab (λhH=>?_) (λhH=>⟨_,?_,j+1,gj+x.t.ngr,by omega,rfl,fM,?_,lW,by omega,rfl⟩)
   ·have sj:=of_decide_eq_true hH
    rw[if_pos sj]at eK
    refine Znt (ih x fP gj tz (by omega) i to hi sj m5 P fM) fM.zin Zdx ?_
    rintro z m6 sk _ ⟨_,hh,gR⟩
    refine⟨by rw[eK];rfl,hh,?_⟩
    rw[eK];exact gR
   ·omega
   ·rw[if_neg (of_decide_eq_false hH)]at eK
    exact eK
  ·have:j=n.subs.length:=by have:=of_decide_eq_false cP;simp only[slN]at this;omega
   subst this
   rw[List.drop_eq_nil_of_le (by omega)]at eK
   simp only[Zqq]at eK
   refine⟨by rw[eK];rfl,dH.wk.has,?_⟩
   rw[eK];exact dH.pt
 ·
  have hk:n.t.k=3:=by simpa[RowKit.intOf]using h3
  rw[if_neg (by omega),if_neg (by omega),if_pos hk]at hQ
  rw[if_neg (by omega),Nat.zero_add]at mM
  rw[if_neg (by omega),Nat.add_zero]at dK
  have hE:∀d j,n.t.ends s d j=Zp1 (e0s s (n.t.subs.drop d)) j:=λd j=>by
   unfold T.ends
   rw[if_pos hk,ZoS,List.map_drop]
  rw[<-Za1,hE]at lU
  refine⟨_,g10,Zaa rfl ⟨λxs css tvs m' q=>∃(j gj p:Nat)(P':PL),j<=n.subs.length/\xs=[.int .i64 (p:Nat),.int .i64 (j:Nat)]/\p<=s.length/\St fb kb root sa s sc pa pc np m' P'/\Q=(Zqr s (n.t.subs.drop j) gj p to P',0)/\to∈Zp1 (e0s s (n.t.subs.drop j)) p/\Zs4 (n.subs.drop j) gj/\gj+ZdJ (n.t.subs.drop j)<=np/\q=n.subs.length - j,⟨_,0,g,i,P,by omega,rfl,hi,cQ,hQ,lU,dK,mM,rfl⟩,?_⟩⟩
  rintro p' y m3 q _ ⟨j,gj,p,P',hj,cH,hp',dH,eK,qD,lV,si,rfl⟩
  simp only[List.cons.injEq,Value.int.injEq,true_and,and_true]at cH
  obtain⟨rfl,rfl⟩:=cH
  refine Zab (λaN=>?_) (λcP=>?_)
  ·have aT:j < n.subs.length:=by have:=of_decide_eq_true aN;simp only[slN]at this;omega
   obtain⟨x,hx⟩:∃x,n.subs[j]?=some x:=⟨_,List.getElem?_eq_getElem aT⟩
   have fP:=List.mem_of_getElem? hx
   have eJ:x.t.right=true:=hw.fin.good x (ZdP hn fP)
   have gZ:=ZuY cS hx
   rw[Zmp gZ]at eK si qD
   obtain⟨tz,lW⟩:=ZoX lV hx
   rw[ZdJ]at si
   rw[e0s,ZrC]at qD
   simp only[Zqr]at eK
   have fK:=Zbw root dH.wk.fm.rep n hn
   obtain⟨b0,o,ha,hp⟩:=Zjx fK hx
   simp only[Int.toNat_natCast,Nat.mul_one,wr1 (show j<=1000000000000000 by omega)]
   refine Zaa rfl ⟨b0,o,ha,⟨by omega,by simp only[slN];omega⟩,_,hp,Znt (ends0 x fP p hp' m3 dH.wk) dH.kin Za3 ?_⟩
   rintro a nn c m4 cI _ ⟨a',c',hv,aM,cY⟩
   obtain⟨rfl,rfl,rfl⟩:a=a'/\nn=(x.t.ends s 0 p).length/\c=c':=by simpa using hv
   have dR:=dH.step cI cY
   refine Znt (Zm7 fb kb (Zp kb pa) root sa s sc n hn (j+1) to (by omega) (λ_=>by omega) (x.t.ends s 0 p) (λj hj=>(Zf3 s x.t 0 p hp' j hj).2) (by have:=ZbT (d:=0) eJ hw.fin.len hp';omega) a c m4 dR.wk aM) dR.kin Zks ?_
   rintro z m5 eT _ ⟨hz,sm⟩
   have fM:=dR.step eT sm
   have u9:Zuw s n.t (j+1) to (x.t.ends s 0 p)=(x.t.e0 s p).find? (λj'=>decide (to∈Zp1 (e0s s (n.t.subs.drop (j+1))) j')):=by
    unfold Zuw
    rw[Za1]
    simp only[hE]
   rw[u9]at hz
   cases oP:(x.t.e0 s p).find? (λj'=>decide (to∈Zp1 (e0s s (n.t.subs.drop (j+1))) j'))with
   | none=>
    exfalso
    obtain⟨w,dY,dQ⟩:=qD
    have:=List.find?_eq_none.1 oP w dY
    simp at this
    exact this dQ
   | some w=>
    rw[oP]at hz eK
    obtain rfl:z=(w:Int):=by simpa[Zu7]using hz
    have tA:=List.mem_of_find?_eq_some oP
    have yj:to∈Zp1 (e0s s (n.t.subs.drop (j+1))) w:=by have:=List.find?_some oP;simpa using this
    have tB:=(ZbZ s x.t p hp' w tA).2
    refine Znt (ih x fP gj tz (by omega) p w hp' tA m5 P' fM) fM.zin Zdx ?_
    rintro z m6 sk _ ⟨_,hh,gR⟩
    refine⟨_,?_,j+1,gj+x.t.ngr,w,_,by omega,rfl,tB,fM.walk sk hh gR (ZmB _ _ _ _ _ _),eK,yj,lW,by omega,rfl⟩
    omega
  ·have:j=n.subs.length:=by have:=of_decide_eq_false cP;simp only[slN]at this;omega
   subst this
   rw[List.drop_eq_nil_of_le (by omega)]at eK
   simp only[Zqr]at eK
   refine⟨by rw[eK];rfl,dH.wk.has,?_⟩
   rw[eK];exact dH.pt
 ·
  have hk:n.t.k=5:=by simpa[RowKit.intOf]using h5
  obtain⟨x,cH,gZ⟩:=oneSub (.inl hk)
  have fP:x∈n.subs:=by rw[cH];simp
  have eJ:x.t.right=true:=hw.fin.good x (ZdP hn fP)
  obtain⟨k1,k2,k3⟩:=kG hk
  rw[if_neg (by omega),if_neg (by omega),if_neg (by omega),if_pos hk]at hQ
  rw[if_neg (by omega),Nat.zero_add,gZ,ZdJ,ZdJ]at mM
  rw[if_neg (by omega),Nat.add_zero,cH]at dK
  have dK:x.num g:=dK.1
  have hE:∀d j,n.t.ends s d j=Zp2 (hd0 s n.t.subs) n.t.mn n.t.mx (mR s.length n.t.mn n.t.mx d j+1) d j:=λd j=>by
   unfold T.ends
   rw[if_neg (by omega),if_pos hk]
  have dI:mR s.length n.t.mn n.t.mx 0 i<=1000:=by
   have:=hw.fin.len
   unfold mR
   split
   ·omega
   ·rcases k3 with h|⟨_,_,h⟩ <;> omega
  refine⟨λxs css tvs m' q=>∃(p d r fu:Nat)(P':PL),xs=[.int .i64 (p:Nat),.int .i64 (d:Nat),.int .i64 (r:Nat)]/\p<=s.length/\d<=1000/\r+mR s.length n.t.mn n.t.mx d p<=1000/\mR s.length n.t.mn n.t.mx d p < fu/\St fb kb root sa s sc pa pc np m' P'/\Q=ZtN (hdW s n.t.subs g) (hd0 s n.t.subs) s.length n.t.mn n.t.mx to fu d p P' r/\q=mR s.length n.t.mn n.t.mx d p,⟨_,i,0,0,_,P,rfl,hi,by omega,by omega,Nat.lt_succ_self _,cQ,hQ,rfl⟩,?_⟩
  rintro p' d' r' m3 q _ ⟨p,d,r,fu,P',sn,hp',hd,hr,nH,dH,eK,rfl⟩
  simp only[List.cons.injEq,Value.int.injEq,true_and,and_true]at sn
  obtain⟨rfl,rfl,rfl⟩:=sn
  have fK:=Zbw root dH.wk.fm.rep n hn
  refine⟨_,trivial,Zlx n d m3 fK kG hk (by omega),λv m' css h=>by unfold Ret at h;rw[h];rfl,?_⟩
  rintro n1 b1 m4 cI oL
  simp only[Ret,Value.tuple.injEq,Array.mk.injEq,List.cons.injEq,Value.int.injEq,Value.bool.injEq,true_and,and_true]at oL
  obtain⟨rfl,rfl⟩:=oL
  have dR:=dH.le cI
  obtain⟨X,hX⟩:∃X,X=ZdU (hd0 s n.t.subs) n.t.mn n.t.mx d p:=⟨_,rfl⟩
  have dC:=Zm5 fb kb (Zp kb pa) root sa s sc n hn hk d p (by omega) hp' (λx hx=>ends0 x hx p hp') m4 dR.wk
  rw[<-hX]at dC
  have r7:X.length<=513:=by
   rw[hX]
   unfold ZdU
   split
   ·have h1:=List.length_filter_le (λj=>decide (p < j)||decide ((d:Int) < n.t.mn)) (hd0 s n.t.subs p)
    have h2:(hd0 s n.t.subs p).length<=513:=by
     rw[gZ]
     simp only[hd0]
     rw[<-Za1]
     exact ZbT eJ hw.fin.len hp'
    omega
   ·simp
  have tz:Zdd n.t.mn n.t.mx d<=1001:=by unfold Zdd;split <;> omega
  have tw:∀z∈X,Zjf n.t.mx d=true/\z∈x.t.e0 s p/\(p < z\/(d:Int) < n.t.mn):=λz hz=>by
   rw[hX]at hz
   obtain⟨q1,q2,q3⟩:=Zcu hz
   refine⟨q1,?_,q3⟩
   rw[gZ]at q2;exact q2
  refine Znt dC dR.kin Za3 ?_
  rintro a nn c m5 eT _ ⟨a',c',hv,aM,cY⟩
  obtain⟨rfl,rfl,rfl⟩:a=a'/\nn=X.length/\c=c':=by simpa using hv
  have fM:=dR.step eT cY
  refine Znt (Zm7 fb kb (Zp kb pa) root sa s sc n hn (Zdd n.t.mn n.t.mx d) to (by omega) (λh=>by omega) X (λj hj=>(ZbZ s x.t p hp' j (tw j hj).2.1).2) (by omega) a c m5 fM.wk aM) fM.kin Zks ?_
  rintro z m6 sk _ ⟨hz,oQ⟩
  have lX:=fM.step sk oQ
  obtain⟨f',rfl⟩:∃f',fu=f'+1:=⟨fu - 1,by omega⟩
  have u9:Zuw s n.t (Zdd n.t.mn n.t.mx d) to X=X.find? (λj=>decide (to∈Zp2 (hd0 s n.t.subs) n.t.mn n.t.mx (mR s.length n.t.mn n.t.mx (Zdd n.t.mn n.t.mx d) j+1) (Zdd n.t.mn n.t.mx d) j)):=by
   unfold Zuw
   simp only[hE]
  rw[u9]at hz
  unfold ZtN at eK
  rw[<-hX]at eK
  cases oP:X.find? (λj=>decide (to∈Zp2 (hd0 s n.t.subs) n.t.mn n.t.mx (mR s.length n.t.mn n.t.mx (Zdd n.t.mn n.t.mx d) j+1) (Zdd n.t.mn n.t.mx d) j))with
  | none=>
   rw[oP]at hz eK
   obtain rfl:z=-1:=by simpa[Zu7]using hz
   refine Zh0 (by decide) ⟨by rw[eK],oQ,?_⟩
   rw[eK];exact lX.pt
  | some w=>
   rw[oP]at hz eK
   obtain rfl:z=(w:Int):=by simpa[Zu7]using hz
   have tA:=List.mem_of_find?_eq_some oP
   obtain⟨w1,w2,w3⟩:=tw w tA
   have tB:=ZbZ s x.t p hp' w w2
   have aN:=Zs1 (len:=s.length) k1 (k3.imp id λh=>h.2.1) w1 tB w3
   have oR:=Zbw root lX.wk.fm.rep n hn
   obtain⟨_,_,_,_,_,_,g10'⟩:=Zg1 oR
   obtain⟨b0,o,ha,hp⟩:=Zjx oR (j:=0) (x:=x) (by rw[cH];rfl)
   refine Zha (by simp) ⟨_,g10',Zaa rfl ⟨b0,o,ha,⟨by omega,by simp[slN,cH]⟩,_,hp,Znt (ih x fP g dK (by omega) p w hp' w2 m6 P' lX) lX.zin Zdx ?_⟩⟩
   rintro z m7 ym _ ⟨_,hh,gR⟩
   simp only[wr1 (show r<=1000000000000000 by omega)]
   refine⟨_,aN,w,Zdd n.t.mn n.t.mx d,r+1,f',_,rfl,tB.2,?_,by omega,by omega,lX.walk ym hh gR (ZmB _ _ _ _ _ _),?_,rfl⟩
   ·unfold Zdd
    unfold Zjf at w1
    simp only[Bool.or_eq_true,beq_iff_eq,decide_eq_true_eq]at w1
    split <;> omega
   ·rw[eK,gZ]
    simp only[hdW]
 ·simp[RowKit.intOf]at h3 h4 h5 h6
  rw[if_neg h6,if_neg h4,if_neg h3,if_neg h5]at hQ
  refine⟨by rw[hQ];rfl,cQ.wk.has,?_⟩
  rw[hQ];exact cQ.pt
theorem Zo8(fb kb:Nat)(root:Nd)(sa:Option Addr)(s:List Nat)(sc:Nat)(pa:Option Addr)(pc np:Nat):∀(N:Nat)(n:Nd),SizeOf.sizeOf n < N->n∈root.all->Zt7 fb kb root sa s sc pa pc np n:=by
 intro N
 induction N with
 | zero=>intro n h;omega
 | succ N ihN=>exact λn hN hn=>Zvr fb kb root sa s sc pa pc np n hn λx hx=>ihN x (by have:=ZuS hx;omega) (ZdP hn hx)
end Go.Proofs.Ytgclajkldphoaaa
