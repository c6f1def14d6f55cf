/- Part of the proof: functions of the program. No condition. -/
import Derived.Test.YtojlhhphofhaoaaGreatDoorPVA
import Derived.Test.YtojlhhphofhaoaaGreatDoorPC25D
import Derived.Test.YtojlhhphofhaoaaGreatDoorPVEB
set_option linter.unusedVariables false
set_option linter.unusedSimpArgs false
set_option linter.unusedSectionVars false
namespace Go.Proofs.YtojlhhphofhaoaaGreatDoor
open Go Go.Eng Go.Rx Go.Proofs Go.RowKit
set_option maxRecDepth 100000
theorem ZbD(m:Mem)(b:Nat)(cs:List Value):(m.add b cs).reads b 0 cs:=λj u hu=>by rw[Mem.add_same,Nat.zero_add];exact hu
abbrev Yn(v:Value):Nat->Prop:=λb=>(Tok.mk v 1).blk=some b
theorem Zya{m m':Mem}{Y Y1:Nat->Prop}(h:(m.off Y).le m')(hn:∀b,Y1 b->Y b\/(m.free b/\m.k b=none)):(m.off Y).le (m'.off Y1):=by
 have no:∀b,Y1 b->(∀o,m.off Y b o=none)/\(m.off Y).k b=none:=λb hb=>by
  by_cases hY:Y b
  ·exact⟨Mem.off_free hY,Mem.off_kn hY⟩
  ·rcases hn b hb with h1|⟨h1,h2⟩
   ·exact absurd h1 hY
   ·exact⟨λo=>by rw[Mem.off_at hY];exact h1 o,by rw[Mem.off_k hY];exact h2⟩
 refine⟨λb o v hv=>?_,λb e he=>?_⟩
 ·by_cases hb:Y1 b
  ·rw[(no b hb).1 o]at hv;cases hv
  ·rw[Mem.off_at hb];exact h.c b o v hv
 ·by_cases hb:Y1 b
  ·rw[(no b hb).2]at he;cases he
  ·rw[Mem.off_k hb];exact h.k b e he
theorem Zva{m m':Mem}(h:m.le m'){b:Nat}(hf:m'.free b/\m'.k b=none):m.free b/\m.k b=none:=by
 refine⟨λo=>?_,?_⟩
 ·cases e:m b o with
  | none=>rfl
  | some v=>have:=h.c b o v e;rw[hf.1 o]at this;cases this
 ·cases e:m.k b with
  | none=>rfl
  | some v=>have:=h.k b v e;rw[hf.2]at this;cases this
structure NmSt (m:Mem)(v0:Value)(m':Mem)(a:Option Addr)(c:Nat)(l:List ByteArray):Prop where
 row:rowRd m' a (ZfA l)
 base:(m.off (Yn v0)).le (m'.off (Yn (.slice a l.length c)))
 new:∀b,Yn (.slice a l.length c) b->Yn v0 b\/(m.free b/\m.k b=none)
def NmR(v0:Value)(m:Mem)(l:List ByteArray):RTY:=λv m' css tvs=>∃a c,v=.slice a l.length c/\tvs=[.slice a l.length c]/\rowRd m' a (ZfA l)/\∀b,Yn (.slice a l.length c) b->Yn v0 b\/(m.free b/\m.k b=none)
theorem Zwd{v0 m l}:∀(v:Value)(m':Mem) (css:List (List Value)) (tvs:List Value),NmR v0 m l v m' css tvs->Shape.fits .slice v=true:=λv _ _ _ ⟨_,_,e,_⟩=>by rw[e];rfl
theorem NmSt.step{m m' m'':Mem}{v0:Value}{a a':Option Addr}{c c':Nat}{l l':List ByteArray}(h:NmSt m v0 m' a c l)(bJ:(m'.off (Yn (.slice a l.length c))).le m'')(hr:rowRd m'' a' (ZfA l'))(hn:∀b,Yn (.slice a' l'.length c') b->Yn (.slice a l.length c) b\/(m'.free b/\m'.k b=none)):NmSt m v0 m'' a' c' l':=by
 refine⟨hr,mLt h.base (Zya bJ hn),λb hb=>?_⟩
 rcases hn b hb with h1|h1
 ·exact h.new b h1
 ·by_cases hY:Yn v0 b
  ·exact .inl hY
  ·have h2:=Zva h.base (b:=b) ⟨λo=>by
    by_cases cG:Yn (.slice a l.length c) b
    ·exact Mem.off_free cG o
    ·rw[Mem.off_at cG];exact h1.1 o,by
    by_cases cG:Yn (.slice a l.length c) b
    ·exact Mem.off_kn cG
    ·rw[Mem.off_k cG];exact h1.2⟩
   refine .inr ⟨λo=>?_,?_⟩
   ·have:=h2.1 o;rwa [Mem.off_at hY]at this
   ·have:=h2.2;rwa [Mem.off_k hY]at this
theorem ZtN(l:List ByteArray):(ZfA l).length=l.length:=by unfold ZfA;exact List.length_map _
theorem Zpk(t:E):∀(out:List ByteArray)(a:Option Addr)(c:Nat)(m:Mem),rowRd m a (ZfA out)->RepE (m.off (Yn (.slice a out.length c))) t->(t.names out).length<=1000000->
  CXY Tryz.prog 201 #[.slice a out.length c,t.v] m (Yn (.slice a out.length c)) [] [⟨.slice a out.length c,1⟩] (NmR (.slice a out.length c) m (t.names out)):=by
 intro out a c m ho hr h1
 have fT:=Zry t out
 have qq:RepE m t:=RepE.mono (Mem.off_le m _) t hr
 apply Zgt
 intro b m1 aB _ iF _
 refine Zab (λhk=>?_) (λhk=>?_)
 ·have rT:t.k=9:=by simpa using hk
  have hN:=Zox t out
  rw[if_pos rT]at hN
  have hE:(out.any λy=>eqS t.s y)=out.any λy=>y.toList == t.s.toList:=by
   congr 1;funext w;unfold eqS;exact Bool.beq_comm
  refine Zah (ZhD out a c t.s m1 (by omega) (ho.mono aB)) λm2 aN=>Zab (λh=>?_) (λh b2 hf=>?_)
  ·rw[hE]at h
   rw[hN,h,if_pos rfl]
   exact⟨a,c,rfl,rfl,ho.mono (mLt aB aN),λb hb=>.inl hb⟩
  ·rw[hE]at h
   rw[h,if_neg (by decide)]at hN
   have bJ:m2.le (m2.add b2 [.string t.s]):=Mem.le_add hf _
   have dH:=mLt aB (mLt aN bJ)
   rw[hN,zA1,List.length_singleton]at h1
   refine⟨.inl rfl,ZfA out,[.string t.s],by rw[ZtN];omega,rfl,ho.mono dH,.inr ⟨b2,0,rfl,ZbD m2 b2 _⟩,λu hu=>?_,by omega,by omega,λa' c' m3 aX aM hT=>?_⟩
   ·obtain rfl:u=.string t.s:=by simpa using hu
    rfl
   ·rw[hN]
    have e:(out++[t.s]).length=out.length+1:=by rw[zA1];rfl
    refine⟨a',c',by rw[e],by rw[e],by unfold ZfA at aM ⊢;rw[List.map_append];exact aM,λb' hb'=>?_⟩
    rcases hT.2 with h|⟨bb,oo,ha',h⟩
    ·rw[h]at hb';simp[Yn,Tok.blk]at hb'
    ·subst ha'
     obtain rfl:bb=b':=by simpa[Yn,Tok.blk]using hb'
     rcases h with h|⟨_,h2,h3⟩
     ·left;rw[h];simp[Yn,Tok.blk]
     ·exact .inr (Zva dH ⟨h2,h3⟩)
 ·have rT:¬t.k=9:=by simpa using hk
  have hN:=Zox t out
  rw[if_neg rT]at hN
  rw[hN]at h1 ⊢
  have ni:=ZeE hr
  refine⟨λxs _ tks m' q=>∃(i:Nat)(a':Option Addr)(c':Nat),i<=t.subs.length/\xs=[.slice a' (ZbA (t.subs.take i) out).length c',.int .i64 i]/\tks=[.slice a' (ZbA (t.subs.take i) out).length c']/\NmSt m (.slice a out.length c) m' a' c' (ZbA (t.subs.take i) out)/\q=t.subs.length - i,
   ⟨_,0,a,c,by omega,by rw[List.take_zero];rfl,by rw[List.take_zero];rfl,by
    rw[List.take_zero]
    exact⟨ho.mono aB,Zya (mLt (Mem.off_le m _) aB) λb hb=>.inl hb,λb hb=>.inl hb⟩,rfl⟩,?_⟩
  rintro a1 n1 c1 n a2 n2 c2 m2 q aN ⟨i,a',c',hi,hx,ht,hS,hq⟩
  simp only[List.cons.injEq,Value.slice.injEq,Value.int.injEq,and_true,true_and]at hx ht
  obtain⟨⟨ea,en,ec⟩,rfl⟩:=hx
  obtain⟨ea',en',ec'⟩:=ht
  subst a1 n1 c1 a2 n2 c2 q
  refine Zab (λaO=>?_) (λbM=>?_)
  ·have aW:i < t.subs.length:=by have:=zA6 aO;omega
   obtain⟨x,hx⟩:=ZcG aW
   have bP:=zA2 hx
   have bH:=ZlC bP
   rcases ni.2 with h|⟨b1,o1,ha,fK⟩
   ·rw[h]at aW;simp at aW
   obtain⟨cS,dW⟩:=(fK.mono' hS.base).get hx
   have cS:=cS.mono (Mem.off_le m2 _)
   have hw:IntKind.i64.wrap ((i:Int)+1)=((i+1:Nat):Int):=by rw[Zam (by omega) (by omega)];rfl
   have fE:=ZqA hx out
   have oV:=Zta (l:=t.subs) (i:=i+1) out
   refine⟨b1,o1,ha,⟨by omega,by omega⟩,_,_,_,_,_,cS,λb2=>Zaa rfl ?_⟩
   refine⟨_,_,Zpk x (ZbA (t.subs.take i) out) a' c' m2 hS.row dW (by rw[<-fE];omega),λt' ht' bb jy=>?_,λbb jy=>.inl ⟨_,by simp,jy⟩,Zwd,?_⟩
   ·obtain rfl:t'=_:=by simpa using ht'
    exact jy
   ·rintro a3 n3 c3 m3 aX _ a4 c4 d4 ⟨a5,c5,hv,cY,cE,mh⟩
    simp only[Value.slice.injEq]at hv
    obtain⟨e1,e2,e3⟩:=hv
    subst a3 n3 c3
    simp only[List.cons.injEq,Value.slice.injEq,and_true]at cY
    obtain⟨e1,e2,e3⟩:=cY
    subst a4 c4 d4
    rw[<-fE]at cE mh ⊢
    refine⟨rfl,rfl,t.subs.length - (i+1),by omega,i+1,a5,c5,by omega,by rw[hw],rfl,hS.step aX cE mh,rfl⟩
  ·have hi':i=t.subs.length:=by have:=of_decide_eq_false bM;omega
   subst hi'
   rw[List.take_length]at hS ⊢
   exact⟨a',c',rfl,rfl,hS.row,hS.new⟩
termination_by SizeOf.sizeOf t
decreasing_by exact bH
theorem Zyb{P:Program}{g:FuncId}{args:Array Value}{m:Mem}{esz:Nat}{R:RTY}(h:CXY P g args m (Yn (.slice none 0 0)) [] [⟨.slice none 0 0,esz⟩] R):CX P g args m [] (λv m' css=>∃tvs,R v m' css tvs):=by
 have hY:∀b,¬Yn (.slice none 0 0) b:=λb hb=>by simp[Yn,Tok.blk]at hb
 have nj:m.le (m.off (Yn (.slice none 0 0))):=⟨λb o v hv=>by rw[Mem.off_at (hY b)];exact hv,λb e he=>by rw[Mem.off_k (hY b)];exact he⟩
 refine⟨h.1,λw h1 h2 h3=>(h.2 w h1 (by simp) (by simp) (λt ht=>?_) (λi j t t' b hi hj hb=>?_) (λb hb=>absurd hb (hY b))).mono ?_⟩
 ·obtain rfl:t=_:=by simpa using ht
  exact⟨.inl rfl,λb hb=>by simp[Tok.blk]at hb⟩
 ·intro _
  have hi:=zA2 hi
  obtain rfl:t=_:=by simpa using hi
  simp[Tok.blk]at hb
 ·rintro e w' ⟨v,m',css,tvs,a1,a2,a3,a4,a5,a6,a7,a8,a9,a10,a11⟩
  exact⟨v,m',css,a1,mLt nj a2,a3,a4.mono λb hb=>hb.resolve_left (hY b),⟨a5.os,a5.tape,a5.output,a5.size,λk hk _=>a5.block k hk (λhm=>hm.elim (by simp) (hY k)),a5.wr⟩,a6,a7,tvs,a11⟩
def ZAw(l:List ByteArray):Value->Mem->List (List Value)->Prop:=λv m' _=>∃a c,v=.slice a l.length c/\rowRd m' a (ZfA l)
theorem ZtO{l}:∀(v:Value)(m':Mem) (css:List (List Value)),ZAw l v m' css->Shape.fits .slice v=true:=λv _ _ ⟨_,_,e,_⟩=>by rw[e];rfl
theorem Zwe(t:E)(m:Mem)(hr:RepE m t):CX Tryz.prog 187 #[t.v] m [] (ZAw t.vars):=by
 apply ZmR
 intro b m1 aB _
 refine Zah (Zda t m1 (RepE.mono' hr aB)) λm2 aN=>Zab (λh=>Zac (mLt aB aN) ?_) (λh=>?_)
 ·have hl:t.light=false:=by simpa using h
  have:t.vars=[]:=by unfold E.vars;rw[hl];rfl
  rw[this]
  exact⟨none,0,rfl,.inl rfl⟩
 ·have hl:t.light=true:=by simpa using h
  have hv:t.vars=t.names []:=by unfold E.vars;rw[hl];rfl
  have h1:(t.names []).length<=1000000:=by
   have h2:=Zf2 t []
   have h3:=zA6 (show decide (t.nodes.length<=10000)=true from hl)
   simp only[List.length_nil]at h2
   omega
  rw[hv]
  have nj:m2.le (m2.off (Yn (.slice none 0 0))):=⟨λb o v hv=>by rw[Mem.off_at (λhb=>by simp[Yn,Tok.blk]at hb)];exact hv,λb e he=>by rw[Mem.off_k (λhb=>by simp[Yn,Tok.blk]at hb)];exact he⟩
  have key:=Zyb (Zpk t [] none 0 m2 (.inl rfl) (RepE.mono' hr (mLt aB (mLt aN nj))) h1)
  refine Zai key (λv m' css ⟨_,_,_,e,_⟩=>by rw[e];rfl) ?_
  rintro a n c m3 aX ⟨tvs,a',c',hv',_,aM,_⟩
  simp only[Value.slice.injEq]at hv'
  obtain⟨rfl,rfl,rfl⟩:=hv'
  exact ZaJ (mLt aB (mLt aN aX)) ⟨_,_,rfl,aM⟩
theorem ZlU(l:List Sta)(a:Option Addr)(c:Nat)(g:Nat)(ca:List Value)(p:Sta->Bool)(m:Mem)(hl:l.length<=1000000000000000)(hr:rowRd m a (l.map Sta.cs).flatten)
  (hp:∀x∈l,∀m',m.le m'->CX Tryz.prog g (.agg x.cs.toArray::ca).toArray m' [] (Ret (.bool (p x)))):
  CX Tryz.prog 179 #[.slice a l.length c,.func (.func g) #[] ca.toArray] m [] (Ret (.int .i64 (if l.any p then(l.findIdx p:Nat)else(-1:Int)))):=by
 apply Za0 a l.length c g [] ca
 refine⟨λxs _ _ m'' q=>∃i:Nat,i<=l.length/\xs=[.int .i64 i]/\(∀x∈l.take i,p x=false)/\q=l.length - i,⟨l.length,0,by omega,rfl,by simp,by omega⟩,?_⟩
 rintro n m' q hm ⟨i,hi,hn,fQ,hq⟩
 obtain rfl:n=i:=by simpa using hn
 refine Zab (λaO=>?_) (λbM=>?_)
 ·have aW:i < l.length:=by simpa using aO
  obtain⟨x,hx⟩:=ZcG aW
  have bP:x∈l:=zA2 hx
  obtain⟨b1,o1,ha,eA⟩:=Zan Sta.len (hr.mono hm) hx (by omega)
  refine⟨b1,o1,ha,⟨by omega,by omega⟩,_,_,eA,Zah (hp x bP m' hm) λm1 aB=>Zab (λfO=>?_) (λfO=>?_)⟩
  ·refine Zac (mLt hm aB) ?_
   have eR:l.any p=true:=List.any_eq_true.2 ⟨x,bP,fO⟩
   have gk:l.findIdx p=i:=by
    rw[List.findIdx_eq aW]
    refine⟨by rw[(zA0 hx).2];exact fO,λj hj=>?_⟩
    exact fQ _ (List.mem_of_getElem? (i:=j) (by rw[List.getElem?_take_of_lt hj];exact zA3 (by omega)))
   simp[Ret,eR,gk]
  ·refine⟨l.length - (i+1),by omega,i+1,by omega,by rw[Zam (by omega) (by omega)];rfl,?_,rfl⟩
   intro y hy
   rw[List.take_add_one,hx]at hy
   rcases List.mem_append.1 hy with hy|hy
   ·exact fQ y hy
   ·simp at hy;rw[hy];exact fO
 ·have hi':i=l.length:=by
   have:¬((i:Int) < (l.length:Int)):=by simpa using bM
   omega
  subst hi'
  refine Zac hm ?_
  have eR:l.any p=false:=by
   rw[List.any_eq_false]
   rw[List.take_length]at fQ
   exact λx hx=>by simp[fQ x hx]
  simp[Ret,eR]
theorem ZtP(l:List Sta)(a:Option Addr)(c:Nat)(g:Nat)(ca:List Value)(p:Sta->Bool)(m:Mem)(hl:l.length<=1000000000000000)(hr:rowRd m a (l.map Sta.cs).flatten)
  (hp:∀x∈l,∀m',m.le m'->CX Tryz.prog g (.agg x.cs.toArray::ca).toArray m' [] (Ret (.bool (p x)))):
  CX Tryz.prog 154 #[.slice a l.length c,.func (.func g) #[] ca.toArray] m [] (Ret (.bool (l.any p))):=by
 apply ZaT a l.length c g [] ca
 refine Zax (ZlU l a c g ca p m hl hr hp) λm' hm=>Zac hm ?_
 cases h:l.any p <;> simp[Ret]
theorem ZlV(l:List Va)(a:Option Addr)(c:Nat)(g:Nat)(ca:List Value)(p:Va->Bool)(m:Mem)(hl:l.length<=1000000000000000)(hr:rowRd m a (l.map Va.cs).flatten)
  (hp:∀x∈l,∀m',m.le m'->CX Tryz.prog g (.agg x.cs.toArray::ca).toArray m' [] (Ret (.bool (p x)))):
  CX Tryz.prog 178 #[.slice a l.length c,.func (.func g) #[] ca.toArray] m [] (Ret (.int .i64 (if l.any p then(l.findIdx p:Nat)else(-1:Int)))):=by
 apply Zbn a l.length c g [] ca
 refine⟨λxs _ _ m'' q=>∃i:Nat,i<=l.length/\xs=[.int .i64 i]/\(∀x∈l.take i,p x=false)/\q=l.length - i,⟨l.length,0,by omega,rfl,by simp,by omega⟩,?_⟩
 rintro n m' q hm ⟨i,hi,hn,fQ,hq⟩
 obtain rfl:n=i:=by simpa using hn
 refine Zab (λaO=>?_) (λbM=>?_)
 ·have aW:i < l.length:=by simpa using aO
  obtain⟨x,hx⟩:=ZcG aW
  have bP:x∈l:=zA2 hx
  obtain⟨b1,o1,ha,eA⟩:=Zan Va.len (hr.mono hm) hx (by omega)
  refine⟨b1,o1,ha,⟨by omega,by omega⟩,_,_,_,_,eA,Zah (hp x bP m' hm) λm1 aB=>Zab (λfO=>?_) (λfO=>?_)⟩
  ·refine Zac (mLt hm aB) ?_
   have eR:l.any p=true:=List.any_eq_true.2 ⟨x,bP,fO⟩
   have gk:l.findIdx p=i:=by
    rw[List.findIdx_eq aW]
    refine⟨by rw[(zA0 hx).2];exact fO,λj hj=>?_⟩
    exact fQ _ (List.mem_of_getElem? (i:=j) (by rw[List.getElem?_take_of_lt hj];exact zA3 (by omega)))
   simp[Ret,eR,gk]
  ·refine⟨l.length - (i+1),by omega,i+1,by omega,by rw[Zam (by omega) (by omega)];rfl,?_,rfl⟩
   intro y hy
   rw[List.take_add_one,hx]at hy
   rcases List.mem_append.1 hy with hy|hy
   ·exact fQ y hy
   ·simp at hy;rw[hy];exact fO
 ·have hi':i=l.length:=by
   have:¬((i:Int) < (l.length:Int)):=by simpa using bM
   omega
  subst hi'
  refine Zac hm ?_
  have eR:l.any p=false:=by
   rw[List.any_eq_false]
   rw[List.take_length]at fQ
   exact λx hx=>by simp[fQ x hx]
  simp[Ret,eR]
theorem ZtQ(l:List Va)(a:Option Addr)(c:Nat)(g:Nat)(ca:List Value)(p:Va->Bool)(m:Mem)(hl:l.length<=1000000000000000)(hr:rowRd m a (l.map Va.cs).flatten)
  (hp:∀x∈l,∀m',m.le m'->CX Tryz.prog g (.agg x.cs.toArray::ca).toArray m' [] (Ret (.bool (p x)))):
  CX Tryz.prog 148 #[.slice a l.length c,.func (.func g) #[] ca.toArray] m [] (Ret (.bool (l.any p))):=by
 apply Za5 a l.length c g [] ca
 refine Zax (ZlV l a c g ca p m hl hr hp) λm' hm=>Zac hm ?_
 cases h:l.any p <;> simp[Ret]
theorem Zeo(n a b:Int)(m:Mem):CX Tryz.prog 151 #[.int .i64 n,.int .i64 a,.int .i64 b] m [] (Ret (.bool (ZbB n a b))):=by
 apply Zhf
 exact⟨ZbB n a b,Zab (λh=>by unfold ZbB;rw[h];rfl) (λh=>by unfold ZbB;rw[h];rfl),Zac (Mem.le_refl m) rfl⟩
theorem Zwf(v:Va)(name:ByteArray)(b:Nat)(m:Mem)(hb:m.reads b 0 [.string name]):CX Tryz.prog 185 #[.agg v.cs.toArray,.pointer (some ⟨b,0,none⟩)] m [] (Ret (.bool (eqS v.s name))):=by
 apply Zhg (c0b:=b) (c0o:=0)
 intro b1 m1 aB _
 exact⟨_,aB.c _ _ _ (hb 0 _ rfl),Zaa rfl (Zac aB rfl)⟩
theorem Zwg{l:List Va}{p:Va->Bool}(h:l.any p=true):∃v,l[l.findIdx p]?=some v/\l.find? p=some v:=by
 induction l with
 | nil=>simp at h
 | cons x l ih=>
  cases hx:p x with
  | true=>exact⟨x,by simp[List.findIdx_cons,hx],by simp[hx]⟩
  | false=>
   obtain⟨v,h1,h2⟩:=ih (by simpa[hx]using h)
   exact⟨v,by simp[List.findIdx_cons,hx,h1],by simp[hx,h2]⟩
theorem ZtR{l:List Va}{p:Va->Bool}(h:l.any p=false):l.find? p=none:=by
 rw[List.find?_eq_none];rw[List.any_eq_false]at h;exact h
theorem Zr8(s:Sc)(name:ByteArray)(m:Mem)(hr:RepC m s):CX Tryz.prog 166 #[s.v,.string name] m [] (Ret (.tuple #[.bool (Zcm s name).1,.bool (Zcm s name).2])):=by
 apply Zkv
 intro b m1 aB _ b1 m2 aN cG
 have gu:=hr.vlen
 unfold few at gu
 have aM:=hr.vrow.mono (mLt aB aN)
 refine Zax (ZlV s.vars s.va s.vc _ [.pointer (some ⟨b1,0,none⟩)] (λv=>eqS v.s name) m2 (by omega) aM λx _ m' hm'=>Zwf x name b1 m' (cG.mono hm')) λm3 aX=>?_
 have bJ:=mLt aB (mLt aN aX)
 cases h:s.vars.any (λv=>eqS v.s name)with
 | true=>
  obtain⟨v,qr,oZ⟩:=Zwg h
  have hk:Zcm s name=(v.b,true):=by unfold Zcm;rw[oZ]
  obtain⟨b4,o4,ha,lG⟩:=Zan Va.len (aM.mono aX) qr (by omega)
  have aO:=(zA0 qr).1
  simp only[if_true]
  refine⟨v.b,true,ZpX (decide_eq_true (by omega)) ⟨b4,o4,ha,⟨by omega,by omega⟩,.bool v.b,?_,by trivial,Zaa rfl ?_⟩,Zac bJ (by rw[hk])⟩
  ·have:=lG 1 _ rfl
   rw[zA8];exact this
  ·rw[decide_eq_true (by omega:((List.findIdx (λv=>eqS v.s name) s.vars:Nat):Int) ≥ 0)]
 | false=>
  have hk:Zcm s name=(false,false):=by unfold Zcm;rw[ZtR h]
  refine⟨false,false,ZdK rfl ⟨by trivial,rfl⟩,Zac bJ (by rw[hk])⟩
theorem Zpl(s:Sc)(name:ByteArray)(b:Nat)(m:Mem)(hr:RepC m s)(hb:m.reads b 0 s.cs):CX Tryz.prog 188 #[.string name,.pointer (some ⟨b,0,none⟩)] m [] (Ret (.bool (!(Zcm s name).1))):=by
 apply ZeJ (c0b:=b) (c0o:=0)
 refine⟨_,_,_,hb,?_⟩
 refine Zai (Zr8 s name m hr) (λv _ _ e=>by rw[show v=_ from e];rfl) ?_
 intro x y m1 aB hv
 have hv:Value.tuple (Array.mk [Value.bool x,Value.bool y])=Value.tuple #[.bool (Zcm s name).1,.bool (Zcm s name).2]:=hv
 simp only[Value.tuple.injEq,Array.mk.injEq,List.cons.injEq,Value.bool.injEq,and_true]at hv
 obtain⟨rfl,rfl⟩:=hv
 exact Zac aB rfl
theorem Zwh(e:E):e.vars.length<=1000000000000000:=by
 unfold E.vars
 split
 ·rename_i hl
  have h2:=Zf2 e []
  have h3:=zA6 (show decide (e.nodes.length<=10000)=true from hl)
  simp only[List.length_nil]at h2
  omega
 ·simp
theorem Zib(s:Sc)(e:E)(m:Mem)(hr:RepC m s)(he:RepE m e):CX Tryz.prog 167 #[s.v,e.v] m [] (Ret (.bool (Zcg s e))):=by
 apply Zgj
 intro b m1 aB hb b1 m2 aN _
 refine Zai (Zwe e m2 (RepE.mono' he (mLt aB aN))) ZtO ?_
 rintro a n c m3 aX ⟨a',c',hv,aM⟩
 simp only[Value.slice.injEq]at hv
 obtain⟨rfl,rfl,rfl⟩:=hv
 refine Zah (Zgu e.vars a c _ [.pointer (some ⟨b,0,none⟩)] (λn=>!(Zcm s n).1) m3 (Zwh e) aM λx _ m' hm'=>Zpl s x b m' (hr.mono (mLt aB (mLt aN (mLt aX hm')))) (hb.mono (mLt aN (mLt aX hm')))) λm4 bI=>Zac (mLt aB (mLt aN (mLt aX bI))) rfl
theorem Zvb(e:E)(m:Mem)(he:RepE m e):CX Tryz.prog 164 #[e.v] m [] (Ret (.bool (ZlI e))):=by
 apply Zkw
 intro b m1 aB _
 exact Zah (Zr6 e E0 m1 (RepE.mono' he aB) (Zw0 m1)) λm2 aN=>Zac (mLt aB aN) rfl
theorem Zf7(r:Ru)(m:Mem)(hr:Rep m r.t):CX Tryz.prog 170 #[.agg r.cs.toArray] m [] (Ret (.int .i64 (ZbV r))):=by
 apply Zfr
 intro b m1 aB _
 refine Zab (λh=>?_) (λh=>Zab (λh2=>Zac aB ?_) (λh2=>Zac aB ?_))
 ·have hk:r.k=1:=by simpa using h
  exact Zax (Zpe r.t m1 (hr.mono aB)) λm2 aN=>Zac (mLt aB aN) (by unfold ZbV;rw[if_pos hk])
 ·have hk:¬r.k=1:=by simpa using h
  have je:r.k=2:=by simpa using h2
  unfold ZbV;rw[if_neg hk,if_pos je]
 ·have hk:¬r.k=1:=by simpa using h
  have je:¬r.k=2:=by simpa using h2
  unfold ZbV;rw[if_neg hk,if_neg je]
theorem Zpm(e:E)(m:Mem)(he:RepE m e):CX Tryz.prog 70 #[e.v] m [] (Ret (.int .i64 (nE e))):=by
 apply Zmz
 intro b m1 aB _
 refine Zah (Zda e m1 (RepE.mono' he aB)) λm2 aN=>Zab (λh=>Zac (mLt aB aN) ?_) (λh=>?_)
 ·have hl:e.light=false:=by simpa using h
  unfold nE;rw[hl];rfl
 ·have hl:e.light=true:=by simpa using h
  exact Zax (Zv8 e m2 (RepE.mono' he (mLt aB aN))) λm3 aX=>Zac (mLt aB (mLt aN aX)) (by unfold nE;rw[hl];rfl)
set_option maxHeartbeats 4000000 in
def CntW(b n p:Int):Prop:=0<=n/\n<=b/\(n=p\/(20000 < n/\20000 < p))
theorem CntW.out{b n p t:Int}(h:CntW b n p)(hn:n > 20000)(ht:p<=t):t > 20000:=by
 rcases h.2.2 with e|⟨_,e⟩ <;> omega
theorem CntW.eq{b n p:Int}(h:CntW b n p)(hn:¬n > 20000):n=p:=by
 rcases h.2.2 with e|⟨e,_⟩ <;> omega
theorem ZfB(s:Sc)(m:Mem)(hr:RepC m s):CX Tryz.prog 38 #[s.v] m [] (Ret (.bool s.light)):=by
 apply ZmA
 intro b m1 aB _
 have gu:=hr.vlen
 have fX:=hr.len
 unfold few at gu fX
 have dark:∀{M:Mem},m1.le M->s.weight > 20000->∀{n:Int},n > 20000->∃m'':Mem,m.le m''/\m''.le M/\Ret (.bool s.light) (.bool (decide (n<=20000))) m'' []:=λ{M} hM hw {n} hn=>Zac (mLt aB hM) (by
  show Value.bool _=Value.bool s.light
  unfold Sc.light
  rw[decide_eq_false (by omega),decide_eq_false (by omega)])
 generalize hV:((s.vars.length:Int)+s.states.length)=V0
 have xB:0<=V0/\V0<=200000:=by omega
 rw[Zam (by omega) (by omega)]
 have tQ:s.weight=V0+ZbF (s.states.map wS):=by unfold Sc.weight;omega
 refine⟨λxs _ _ m' q=>∃(i:Nat)(n:Int),i<=s.states.length/\xs=[.int .i64 n,.int .i64 i]/\CntW 300000 n (V0+ZbF ((s.states.take i).map wS))/\q=s.states.length - i,⟨_,0,V0,by omega,rfl,⟨by omega,by omega,.inl (by simp[ZbF])⟩,rfl⟩,?_⟩
 rintro n k0 m2 q aN ⟨i,n',hi,hx,hC,hq⟩
 simp only[List.cons.injEq,Value.int.injEq,and_true,true_and]at hx
 obtain⟨rfl,rfl⟩:=hx
 subst hq
 have iL:IntKind.i64.wrap ((i:Int)+1)=((i+1:Nat):Int):=by rw[Zam (by omega) (by omega)];rfl
 simp only[iL,zA8]
 refine Zau (λaO=>?_) (λbM=>?_)
 ·have aW:i < s.states.length:=by omega
  obtain⟨x,hx⟩:=ZcG aW
  have jR:=zA2 hx
  obtain⟨b1,o1,ha,eA⟩:=Zan Sta.len ((hr.mono (mLt aB aN)).row) hx (by omega)
  have cS:=hr.all x jR
  have jS:=cS.len
  unfold few at jS
  refine⟨b1,o1,ha,⟨by omega,by omega⟩,_,_,eA,λb2=>Zaa rfl (Zaa rfl ?_)⟩
  generalize pY:V0+ZbF ((s.states.take i).map wS)=P0 at hC
  have tR:V0+ZbF ((s.states.take (i+1)).map wS)=P0+wS x:=by rw[ZeF wS hx];omega
  have vO:P0+wS x<=s.weight:=by rw[<-tR,tQ];have:=Zj3 wS ZAk s.states (i+1);omega
  refine⟨λxs _ _ m' q=>∃(k:Nat)(n:Int),k<=x.rules.length/\xs=[.int .i64 n,.int .i64 k]/\CntW 300000 n (P0+ZbF ((x.rules.take k).map wR))/\q=x.rules.length - k,⟨_,0,n,by omega,rfl,by simpa[ZbF]using hC,rfl⟩,?_⟩
  rintro n1 k1 m3 q aX ⟨k,n1',hk,gW,mj,hq⟩
  simp only[List.cons.injEq,Value.int.injEq,and_true,true_and]at gW
  obtain⟨rfl,rfl⟩:=gW
  subst hq
  have iv:IntKind.i64.wrap ((k:Int)+1)=((k+1:Nat):Int):=by rw[Zam (by omega) (by omega)];rfl
  simp only[iv,zA8]
  have cV:m.le m3:=mLt aB (mLt aN aX)
  refine Zau (λeG=>?_) (λeN=>?_)
  ·have kG:k < x.rules.length:=by have:(k:Int) < (x.rules.length:Int):=eG;omega
   obtain⟨r,gF⟩:=ZcG kG
   have qq:=zA2 gF
   have fM:=cS.all r qq
   obtain⟨b3,o3,gq,kH⟩:=Zan Ru.len ((cS.row).mono cV) gF (by omega)
   have o8:=fM.len
   unfold few at o8
   generalize xC:P0+ZbF ((x.rules.take k).map wR)=P1 at mj
   have pb:P0+ZbF ((x.rules.take (k+1)).map wR)=P1+wR r:=by rw[ZeF wR gF];omega
   have vP:P1+wR r<=s.weight:=by
    rw[<-pb]
    have:=Zj3 wR Zzb x.rules (k+1)
    unfold wS at vO
    omega
   refine Zaa rfl ⟨b3,o3,gq,⟨by omega,by show(k:Int) < (x.rules.length:Int);omega⟩,_,_,_,_,_,_,_,_,_,_,_,_,_,_,_,_,kH,λb4=>Zaa rfl ?_⟩
   have bH:=Zjs r.t
   refine Zax (ZrZ r.t m3 (fM.t.mono cV)) λm4 bI=>?_
   have jN:(if(20000:Int) < r.t.size then(20000:Int)else r.t.size)=ZgG r.t.size 20000:=rfl
   have fH:0<=ZgG r.t.size 20000/\ZgG r.t.size 20000<=20000:=by unfold ZgG;split <;> omega
   rw[jN]
   have xD:=mj.1
   have xE:=mj.2.1
   refine⟨λxs _ _ m'=>∃n:Int,xs=[.int .i64 n]/\CntW 330000 n (P1+1+ZgG r.t.size 20000+(if r.t.light then 0 else 20001)),?_,?_⟩
   ·refine Zah (ZdO r.t m4 (fM.t.mono (mLt cV bI))) λm5 cP=>Zab (λh=>⟨by trivial,20001,rfl,?_⟩) (λh=>⟨by trivial,_,rfl,?_⟩)
    ·have hl:r.t.light=false:=by simpa using h
     rw[hl,if_neg (by decide)]
     have hp:0<=P1:=by rcases mj.2.2 with e|⟨_,e⟩ <;> omega
     exact⟨by omega,by omega,.inr ⟨by omega,by omega⟩⟩
    ·have hl:r.t.light=true:=by simpa using h
     rw[hl,if_pos rfl,Zam (n:=1+ZgG r.t.size 20000) (by omega) (by omega),Zam (by omega) (by omega)]
     refine⟨by omega,by omega,?_⟩
     rcases mj.2.2 with e|⟨e1,e2⟩
     ·left;omega
     ·right;omega
   ·rintro n2 m5 cP ⟨n2',mG,rU⟩
    obtain rfl:n2=n2':=by simpa using mG
    generalize vQ:P1+1+ZgG r.t.size 20000+(if r.t.light then 0 else 20001)=P2 at rU
    have iM:wR r=(P2 - P1)+ZbF (r.acts.map wA):=by unfold wR;rw[<-vQ];omega
    have pf:m.le m5:=mLt cV (mLt bI cP)
    refine Zaa rfl ⟨λxs _ _ m' q=>∃(j:Nat)(n:Int),j<=r.acts.length/\xs=[.int .i64 n,.int .i64 j]/\CntW (330000+j*200000) n (P2+ZbF ((r.acts.take j).map wA))/\q=r.acts.length - j,⟨_,0,n2,by omega,rfl,by simpa[ZbF]using rU,rfl⟩,?_⟩
    rintro n3 k3 m6 q iR ⟨j,n3',hj,lG,ml,hq⟩
    simp only[List.cons.injEq,Value.int.injEq,and_true,true_and]at lG
    obtain⟨rfl,rfl⟩:=lG
    subst hq
    have vR:IntKind.i64.wrap ((j:Int)+1)=((j+1:Nat):Int):=by rw[Zam (by omega) (by omega)];rfl
    simp only[vR,zA8]
    have j3:=mLt pf iR
    have eQ:=ml.1
    have tS:=ml.2.1
    refine Zau (λkJ=>?_) (λlH=>?_)
    ·have pg:j < r.acts.length:=by have:(j:Int) < (r.acts.length:Int):=kJ;omega
     obtain⟨a,jT⟩:=ZcG pg
     have kK:=fM.all a (zA2 jT)
     obtain⟨b5,o5,lf,qs⟩:=Zan Ac.len ((fM.row).mono j3) jT (by omega)
     have lD:=kK.n
     unfold few at lD
     have xF:=Zoy a.e
     generalize xG:P2+ZbF ((r.acts.take j).map wA)=P3 at ml
     have rV:P2+ZbF ((r.acts.take (j+1)).map wA)=P3+wA a:=by rw[ZeF wA jT];omega
     have vS:P3+wA a<=s.weight:=by
      have:=Zj3 wA ZxK r.acts (j+1)
      omega
     refine Zaa rfl ⟨b5,o5,lf,⟨by omega,by show(j:Int) < (r.acts.length:Int);omega⟩,_,_,_,_,_,_,_,_,qs,λb6=>Zaa rfl ?_⟩
     refine⟨λ_ _ _=>Ret (.int .i64 (nE a.e)),_,rfl,Zpm a.e m6 (RepE.mono' kK.e j3),λv _ _ e=>by rw[show v=_ from e];rfl,λn8 m7 jm rW=>Zaa rfl λM i7 gD=>Zaa rfl ?_⟩
     obtain rfl:n8=nE a.e:=by cases rW;rfl
     have rX:slN (Value.slice a.pa a.parts.length a.pc)=a.parts.length:=rfl
     rw[rX,Zam (n:=1+nE a.e) (by omega) (by omega),Zam (n:=1+nE a.e+(a.parts.length:Int)) (by omega) (by omega),Zam (by omega) (by omega)]
     have vT:wA a=(1+nE a.e+a.parts.length)+ZbF (a.parts.map λp=>nE p.e):=by unfold wA;omega
     have qt:=mLt j3 i7
     refine⟨λxs _ _ m' q=>∃(w:Nat)(n:Int),w<=a.parts.length/\xs=[.int .i64 n,.int .i64 w]/\CntW (330000+(j+1)*200000) n (P3+(1+nE a.e+a.parts.length)+ZbF ((a.parts.take w).map λp=>nE p.e))/\q=a.parts.length - w,⟨_,0,_,by omega,rfl,⟨by omega,by omega,?_⟩,rfl⟩,?_⟩
     ·simp only[List.take_zero,List.map_nil,ZbF]
      rcases ml.2.2 with e|⟨e1,e2⟩
      ·left;omega
      ·right;omega
     rintro n4 k4 m8 q gZ ⟨w,n4',hw,nk,np,hq⟩
     simp only[List.cons.injEq,Value.int.injEq,and_true,true_and]at nk
     obtain⟨rfl,rfl⟩:=nk
     subst hq
     have rY:IntKind.i64.wrap ((w:Int)+1)=((w+1:Nat):Int):=by rw[Zam (by omega) (by omega)];rfl
     simp only[rY,zA8]
     have ph:=mLt qt gZ
     have vU:m1.le m8:=mLt aN (mLt aX (mLt bI (mLt cP (mLt iR (mLt i7 gZ)))))
     have nV:=np.1
     have tT:=np.2.1
     refine Zau (λlI=>?_) (λlJ=>?_)
     ·have pi:w < a.parts.length:=by have:(w:Int) < (a.parts.length:Int):=lI;omega
      obtain⟨p,jX⟩:=ZcG pi
      have lb:=kK.all p (zA2 jX)
      obtain⟨b7,o7,rZ,vV⟩:=Zan Pt.len ((kK.row).mono ph) jX (by omega)
      have xH:=Zoy p.e
      have cU:=ZeF (λp:Pt=>nE p.e) jX
      have vW:=Zj3 (λp:Pt=>nE p.e) (λp=>(Zoy p.e).1) a.parts w
      refine Zaa rfl ⟨b7,o7,rZ,⟨by omega,by show(w:Int) < (a.parts.length:Int);omega⟩,_,_,_,_,_,_,_,_,vV,λb8=>Zaa rfl (Zau (λhd=>dark vU (np.out hd (by omega)) hd) (λhd=>?_))⟩
      refine Zax (Zpm p.e m8 (RepE.mono' lb.e ph)) λm9 nX=>⟨by trivial,a.parts.length - (w+1),by omega,w+1,_,by omega,rfl,?_,rfl⟩
      have he:=np.eq hd
      rw[Zam (by omega) (by omega),cU]
      exact⟨by omega,by omega,.inl (by omega)⟩
     ·have hw':w=a.parts.length:=by have:¬(w:Int) < (a.parts.length:Int):=lJ;omega
      subst hw'
      rw[List.take_length]at np
      refine⟨by trivial,r.acts.length - (j+1),by omega,j+1,n4,by omega,rfl,?_,rfl⟩
      rw[rV,vT]
      exact⟨np.1,by push_cast;omega,by rcases np.2.2 with e|e;left;omega;right;omega⟩
    ·have hj':j=r.acts.length:=by have:¬(j:Int) < (r.acts.length:Int):=lH;omega
     subst hj'
     rw[List.take_length]at ml
     have qu:m1.le m6:=mLt aN (mLt aX (mLt bI (mLt cP iR)))
     refine Zau (λhd=>dark qu (ml.out hd (by omega)) hd) (λhd=>⟨by trivial,x.rules.length - (k+1),by omega,k+1,n3,by omega,rfl,?_,rfl⟩)
     rw[pb,iM]
     exact⟨ml.1,by omega,.inl (by have:=ml.eq hd;omega)⟩
  ·have hk':k=x.rules.length:=by have:¬(k:Int) < (x.rules.length:Int):=eN;omega
   subst hk'
   rw[List.take_length]at mj
   refine⟨by trivial,s.states.length - (i+1),by omega,i+1,n1,by omega,rfl,?_,rfl⟩
   rw[tR];exact mj
 ·have hi':i=s.states.length:=by omega
  subst hi'
  rw[List.take_length,<-tQ]at hC
  refine Zac (mLt aB aN) ?_
  show Value.bool _=Value.bool s.light
  unfold Sc.light
  congr 1
  rw[decide_eq_decide]
  rcases hC.2.2 with e|⟨e1,e2⟩ <;> omega
theorem Zwi(x:Sta)(name:ByteArray)(b:Nat)(m:Mem)(hb:m.reads b 0 [.string name]):CX Tryz.prog 183 #[.agg x.cs.toArray,.pointer (some ⟨b,0,none⟩)] m [] (Ret (.bool (eqS x.s name))):=by
 apply Zkr (c0b:=b) (c0o:=0)
 intro b1 m1 aB _
 exact⟨_,(hb.mono aB) 0 _ rfl,Zaa rfl (Zac aB rfl)⟩
def ZAx(s:Sc)(name:ByteArray):Value->Mem->List (List Value)->Prop:=λv _ _=>∃n:Int,v=.tuple #[.int .i64 n,.bool (ZgE s name)]
theorem ZtS{s name}:∀(v:Value)(m':Mem) (css:List (List Value)),ZAx s name v m' css->Shape.fits (.tup [.int .i64,.bool]) v=true:=λv _ _ ⟨_,e⟩=>by rw[e];rfl
theorem Zyc(s:Sc)(name:ByteArray)(m:Mem)(hr:RepC m s):CX Tryz.prog 161 #[s.v,.string name] m [] (ZAx s name):=by
 apply ZoY
 intro b m1 aB _ b1 m2 aN cG
 have fX:=hr.len
 unfold few at fX
 have bJ:=mLt aB aN
 refine Zax (ZlU s.states s.sa s.sc _ [.pointer (some ⟨b1,0,none⟩)] (λx=>eqS x.s name) m2 (by omega) (hr.row.mono bJ) λx _ m' hm'=>Zwi x name b1 m' (cG.mono hm')) λm3 aX=>?_
 have cV:=mLt bJ aX
 cases h:s.states.any (λx=>eqS x.s name)with
 | true=>
  refine⟨!s.light,ZdK (decide_eq_false (by simp)) ?_,Zab (λhl=>Zac cV ⟨_,by unfold ZgE;rw[h];simp at hl;rw[hl];rfl⟩) (λhl=>Zac cV ⟨_,by unfold ZgE;rw[h];simp at hl;rw[hl];rfl⟩)⟩
  exact Zah (ZfB s m3 (hr.mono cV)) λm4 bI=>⟨by trivial,rfl⟩
 | false=>
  refine⟨true,ZpX rfl ⟨by trivial,rfl⟩,ZpX rfl (Zac cV ⟨_,by unfold ZgE;rw[h];rfl⟩)⟩
def ZBv(a:Int×Nat×List Value):List Value:=[.int .i64 a.1,.func (.func a.2.1) #[] a.2.2.toArray]
theorem Zwj(a:Int×Nat×List Value):(ZBv a).length=2:=rfl
theorem Zf8(l:List ((Int×Nat×List Value)×Bool))(a:Option Addr)(c:Nat)(m:Mem)(hl:l.length<=100000)(hr:rowRd m a (l.map λx=>ZBv x.1).flatten)
  (hp:∀x∈l,∀m',m.le m'->CX Tryz.prog x.1.2.1 x.1.2.2.toArray m' [] (Ret (.bool x.2))):
  CX Tryz.prog 144 #[.slice a l.length c] m [] (Ret (.int .i64 (Zb9 (l.map λx=>(x.1.1,x.2))))):=by
 apply Ziu a l.length c
 refine⟨λxs _ _ m'' q=>∃i:Nat,i<=l.length/\xs=[.int .i64 0,.int .i64 i]/\Zb9 (l.map λx=>(x.1.1,x.2))=Zb9 ((l.drop i).map λx=>(x.1.1,x.2))/\q=l.length - i,⟨l.length,0,by omega,rfl,rfl,by omega⟩,?_⟩
 rintro n k m1 q aB ⟨i,hi,hx,he,hq⟩
 simp only[List.cons.injEq,Value.int.injEq,and_true,true_and]at hx
 obtain⟨rfl,rfl⟩:=hx
 refine Zau (λaO=>?_) (λbM=>?_)
 ·have aW:i < l.length:=by have:(i:Int) < (l.length:Int):=aO;omega
  obtain⟨x,hx⟩:=ZcG aW
  have hd:l.drop i=x::l.drop (i+1):=by
   rw[List.drop_eq_getElem_cons aW,(zA0 hx).2]
  obtain⟨b1,o1,ha,eA⟩:=Zan (cs:=λx:(Int×Nat×List Value)×Bool=>ZBv x.1) (λx=>Zwj x.1) (hr.mono aB) hx (by omega)
  refine⟨b1,o1,ha,⟨by omega,by show(i:Int) < (l.length:Int);omega⟩,_,_,eA,λb2=>Zaa rfl ⟨_,_,_,rfl,?_⟩⟩
  refine Zah (hp x (zA2 hx) m1 aB) λm2 aN=>Zab (λh=>Zac (mLt aB aN) ?_) (λh=>?_)
  ·show Value.int _ _=Value.int _ _
   rw[he,hd,List.map_cons,Zb9,if_pos h]
  ·refine⟨l.length - (i+1),by omega,i+1,by omega,by rw[Zam (by omega) (by omega)];rfl,?_,rfl⟩
   rw[he,hd,List.map_cons,Zb9,if_neg (by rw[h];decide)]
 ·have hi':i=l.length:=by have:¬(i:Int) < (l.length:Int):=bM;omega
  refine Zac aB ?_
  show Value.int _ _=Value.int _ _
  rw[he,hi',List.drop_length];rfl
theorem ZtT(v:Va)(m:Mem):CX Tryz.prog 147 #[.agg #[.bool v.b,.string v.t,.float .f64 v.x]] m [] (Ret (.bool (Zfi v))):=by
 apply Zkt
 intro b m1 aB _
 refine Zab (λhb=>⟨Zfi v,Zah (Zpg v.x m1) λm2 aN=>Zab (λh=>⟨by trivial,Zaf ?_⟩) (λh=>⟨by trivial,Zaf ?_⟩),Zac aB rfl⟩) (λhb=>⟨Zfi v,⟨_,Zpf v.x,Zaa rfl (Zab (λh=>⟨by trivial,Zaf ?_⟩) (λh=>⟨by trivial,Zaf ?_⟩))⟩,Zac aB rfl⟩)
 ·unfold Zfi;rw[hb,if_pos rfl,h,Zcf];rfl
 ·unfold Zfi;rw[hb,if_pos rfl,h];rfl
 ·unfold Zfi;rw[hb,if_neg (by decide)]
  have:v.x=0:=by
   have h2:=eq_of_beq (show((v.x:Int) == 0)=true from h);omega
  rw[this]
  show decide ((v.t.size:Int)<=512)=(true&&decide (v.t.size<=512))
  rw[Bool.true_and,decide_eq_decide];omega
 ·unfold Zfi;rw[hb,if_neg (by decide)]
  have:¬v.x=0:=by
   intro e
   have h2:((v.x:Int) == 0)=false:=h
   rw[e]at h2;simp at h2
  rw[beq_eq_false_iff_ne.2 this];rfl
theorem ZkN(p q:Pt)(b:Nat)(m:Mem)(hq:RepP m q)(hb:m.reads b 0 q.cs):CX Tryz.prog 189 #[p.v,.pointer (some ⟨b,0,none⟩)] m [] (Ret (.bool (q.s.toList == p.s.toList&&(q.g == p.g&&(p.k == 4||ZlI q.e))))):=by
 apply Zc7 (c0b:=b) (c0o:=0)
 intro b1 m1 aB _
 have cG:=hb.mono aB
 refine⟨q.s.toList == p.s.toList&&(q.g == p.g&&(p.k == 4||ZlI q.e)),⟨_,cG 1 _ rfl,Zaa rfl (Zab (λh=>⟨_,cG 2 _ rfl,Zaa rfl (Zab (λh2=>Zab (λh3=>⟨by trivial,Zaf ?_⟩) (λh3=>⟨q.e.k |> Value.int .u8,.float .f64 q.e.x,.string q.e.s,.int .i64 q.e.g,.slice q.e.a q.e.subs.length q.e.c,?_,?_⟩)) (λh2=>⟨by trivial,Zaf ?_⟩))⟩) (λh=>⟨by trivial,Zaf ?_⟩))⟩,Zac aB rfl⟩
 ·have h:(q.s.toList == p.s.toList)=true:=h
  have h2:(q.g == p.g)=true:=h2
  rw[h,h2,h3];rfl
 ·exact λi v hi=>by
   have:=cG (3+i) v (by unfold Pt.cs;rw[show 3+i=i+3 from by omega];exact hi)
   rw[show 0+3+i=0+(3+i) from by omega];exact this
 ·have h:(q.s.toList == p.s.toList)=true:=h
  have h2:(q.g == p.g)=true:=h2
  refine Zah (Zr6 q.e E0 m1 (RepE.mono aB _ hq.e) (Zw0 m1)) λm2 aN=>⟨by trivial,Zaf ?_⟩
  rw[h,h2,h3];rfl
 ·have h:(q.s.toList == p.s.toList)=true:=h
  have h2:(q.g == p.g)=false:=h2
  rw[h,h2];rfl
 ·have h:(q.s.toList == p.s.toList)=false:=h
  rw[h];rfl
theorem ZmZ(p:Pt)(m:Mem)(hp:RepP m p):CX Tryz.prog 172 #[p.v] m [] (Ret (.bool (Zbg p))):=by
 apply Zdx
 intro b m1 aB hb
 have tD:=hp.mono aB
 have one:=λ(p':Pt)(M:Mem)(hM:m1.le M)=>ZkN p' p b M (tD.mono hM) (hb.mono hM)
 have j7:∀x:ByteArray,((⟨#[]⟩:ByteArray).toList == x.toList)=(x.size == 0):=λx=>by rw[<-Zcf,Bool.beq_comm]
 refine Zab (λh1=>⟨Zbg p,Zau (λh2=>Zau (λh3=>Zah (one ⟨p.k,p.s,0,E0⟩ m1 (Mem.le_refl _)) λm2 aN=>⟨by trivial,Zaf ?_⟩) (λh3=>⟨by trivial,Zaf ?_⟩)) (λh2=>⟨by trivial,Zaf ?_⟩),Zac aB rfl⟩)
  (λh1=>Zab (λh2=>⟨Zbg p,Zah (ZhF p.s hp.s m1) λm2 aN=>Zab (λh3=>Zah (one ⟨p.k,p.s,0,E0⟩ m2 aN) λm3 aX=>⟨by trivial,Zaf ?_⟩) (λh3=>⟨by trivial,Zaf ?_⟩),Zac aB rfl⟩)
   (λh2=>Zab (λh3=>⟨Zbg p,Zau (λh4=>Zau (λh5=>Zah (one ⟨p.k,⟨#[]⟩,p.g,E0⟩ m1 (Mem.le_refl _)) λm2 aN=>⟨by trivial,Zaf ?_⟩) (λh5=>⟨by trivial,Zaf ?_⟩)) (λh4=>⟨by trivial,Zaf ?_⟩),Zac aB rfl⟩)
    (λh3=>Zab (λh4=>⟨Zbg p,Zah (Zpi p.e m1 (RepE.mono aB _ hp.e)) λm2 aN=>Zab (λh5=>Zah (one ⟨p.k,⟨#[]⟩,0,E0⟩ m2 aN) λm3 aX=>⟨by trivial,Zaf ?_⟩) (λh5=>⟨by trivial,Zaf ?_⟩),Zac aB rfl⟩) (λh4=>Zac aB ?_))))
 ·have k1:p.k=1:=by simpa using h1
  have g2:p.s.size > 0:=by omega
  have g3:p.s.size<=512:=by omega
  unfold Zbg;simp[k1,g2,g3]
 ·have k1:p.k=1:=by simpa using h1
  have g3:¬p.s.size<=512:=by omega
  unfold Zbg;rw[if_pos k1,decide_eq_false g3];simp
 ·have k1:p.k=1:=by simpa using h1
  have g2:¬p.s.size > 0:=by omega
  unfold Zbg;rw[if_pos k1,decide_eq_false g2];rfl
 ·have k2:p.k=2:=by simpa using h2
  unfold Zbg;simp[k2,h3]
 ·have k2:p.k=2:=by simpa using h2
  unfold Zbg;simp[k2,h3]
 ·have k3:p.k=3:=by simpa using h3
  unfold Zbg;rw[if_neg (by omega),if_neg (by omega),if_pos k3,decide_eq_true h4,decide_eq_true h5,Zcf];simp[k3]
 ·have k3:p.k=3:=by simpa using h3
  unfold Zbg;rw[if_neg (by omega),if_neg (by omega),if_pos k3,decide_eq_false h5];simp
 ·have k3:p.k=3:=by simpa using h3
  unfold Zbg;rw[if_neg (by omega),if_neg (by omega),if_pos k3,decide_eq_false h4];simp
 ·have k4:p.k=4:=by simpa using h4
  unfold Zbg;rw[if_neg (by omega),if_neg (by omega),if_neg (by omega),if_pos k4,h5,Zcf];simp[k4]
 ·have k4:p.k=4:=by simpa using h4
  unfold Zbg;rw[if_neg (by omega),if_neg (by omega),if_neg (by omega),if_pos k4,h5];rfl
 ·have k1:¬p.k=1:=by simpa using h1
  have k2:¬p.k=2:=by simpa using h2
  have k3:¬p.k=3:=by simpa using h3
  have k4:¬p.k=4:=by simpa using h4
  show Value.bool false=Value.bool (Zbg p)
  unfold Zbg;rw[if_neg k1,if_neg k2,if_neg k3,if_neg k4]
theorem ZtU(r:Ru)(m:Mem)(hr:RepR m r):CX Tryz.prog 157 #[.agg r.cs.toArray] m [] (Ret (.bool (ZaR r))):=by
 apply Zhi
 intro b m1 aB _
 refine⟨Zw2 r,Zab (λh=>⟨by trivial,Zaf ?_⟩) (λh=>Zab (λh2=>⟨by trivial,Zaf ?_⟩) (λh2=>Zah (Zx5 r.t T0 m1 (hr.t.mono aB) (Zzx m1)) λm2 aN=>⟨by trivial,Zaf ?_⟩)),?_⟩
 ·unfold Zw2;rw[h];rfl
 ·unfold Zw2;rw[h,h2];rfl
 ·unfold Zw2;rw[h,h2];rfl
 refine Zab (λk2=>?_) (λk2=>Zab (λk4=>?_) (λk4=>Zab (λk3=>?_) (λk3=>Zab (λk1=>?_) (λk1=>?_))))
 ·have k2:r.k=2:=by simpa using k2
  refine⟨ZaR r,Zab (λh=>Zab (λh2=>Zah (Zeo r.s.size 1 64 m1) λm2 aN=>⟨by trivial,Zaf ?_⟩) (λh2=>⟨by trivial,Zaf ?_⟩)) (λh=>⟨by trivial,Zaf ?_⟩),Zac aB rfl⟩
  ·unfold ZaR;rw[if_pos k2,h,show(r.n == 0)=true from h2];rfl
  ·unfold ZaR;rw[if_pos k2,h,show(r.n == 0)=false from h2];rfl
  ·unfold ZaR;rw[if_pos k2,h];rfl
 ·have k2:¬r.k=2:=by simpa using k2
  have k4:r.k=4:=by simpa using k4
  refine⟨ZaR r,Zab (λh=>Zab (λh2=>Zah (Zeo r.n 1 1000 m1) λm2 aN=>⟨by trivial,Zaf ?_⟩) (λh2=>⟨by trivial,Zaf ?_⟩)) (λh=>⟨by trivial,Zaf ?_⟩),Zac aB rfl⟩
  ·rw[Zcf]at h2;unfold ZaR;rw[if_neg k2,if_pos k4,h,h2];rfl
  ·rw[Zcf]at h2;unfold ZaR;rw[if_neg k2,if_pos k4,h,h2];rfl
  ·unfold ZaR;rw[if_neg k2,if_pos k4,h];rfl
 ·have k2:¬r.k=2:=by simpa using k2
  have k4:¬r.k=4:=by simpa using k4
  have k3:r.k=3:=by simpa using k3
  refine Zab (λh=>Zac aB ?_) (λh=>⟨ZaR r,Zab (λh2=>⟨by trivial,Zaf ?_⟩) (λh2=>⟨by trivial,Zaf ?_⟩),Zac aB rfl⟩)
  ·show Value.bool false=Value.bool (ZaR r)
   unfold ZaR;rw[if_neg k2,if_neg k4,if_pos k3,h];rfl
  ·rw[Zcf]at h2;unfold ZaR;rw[if_neg k2,if_neg k4,if_pos k3,h,h2];rfl
  ·rw[Zcf]at h2;unfold ZaR;rw[if_neg k2,if_neg k4,if_pos k3,h,h2];rfl
 ·have k2:¬r.k=2:=by simpa using k2
  have k4:¬r.k=4:=by simpa using k4
  have k3:¬r.k=3:=by simpa using k3
  have k1:r.k=1:=by simpa using k1
  refine⟨ZaR r,Zab (λh2=>⟨by trivial,Zaf ?_⟩) (λh2=>⟨by trivial,Zaf ?_⟩),Zac aB rfl⟩
  ·rw[Zcf]at h2;unfold ZaR;rw[if_neg k2,if_neg k4,if_neg k3,if_pos k1,h2];rfl
  ·rw[Zcf]at h2;unfold ZaR;rw[if_neg k2,if_neg k4,if_neg k3,if_pos k1,h2];rfl
 ·have k2:¬r.k=2:=by simpa using k2
  have k4:¬r.k=4:=by simpa using k4
  have k3:¬r.k=3:=by simpa using k3
  have k1:¬r.k=1:=by simpa using k1
  refine Zac aB ?_
  show Value.bool false=Value.bool (ZaR r)
  unfold ZaR;rw[if_neg k2,if_neg k4,if_neg k3,if_neg k1]
theorem Zct{m:Mem}{b o:Nat}{cs:List Value}(h:m.reads b o cs)(k n:Nat):m.reads b (o+k) ((cs.drop k).take n):=λi v hi=>by
 rw[Nat.add_assoc]
 refine h (k+i) v ?_
 rw[List.getElem?_take]at hi
 split at hi
 ·rwa [List.getElem?_drop]at hi
 ·cases hi
theorem Zpn{α:Type}{cs:α->List Value}{m:Mem}{a:Option Addr}{L:List α}(h:rowRd m a (L.map cs).flatten)(k:Nat):rowRd m a ((L.take k).map cs).flatten:=by
 have e:(L.map cs).flatten=((L.take k).map cs).flatten++((L.drop k).map cs).flatten:=by
  rw[<-List.flatten_append,<-List.map_append,List.take_append_drop]
 rw[e]at h
 rcases h with h|⟨b,o,ha,h⟩
 ·exact .inl (List.append_eq_nil_iff.1 h).1
 ·refine .inr ⟨b,o,ha,λj v hj=>h j v ?_⟩
  rw[zA5 (zA0 hj).1];exact hj
section
variable {m:Mem} {b:Nat}
theorem ZtV(s:Sc)(hb:m.reads b 0 s.cs):CX Tryz.prog 150 #[.pointer (some ⟨b,0,none⟩)] m [] (Ret (.bool (!ZbB s.n 2 256))):=by
 apply Zgl (c0b:=b) (c0o:=0)
 refine⟨_,hb 0 _ rfl,Zah (Zeo s.n 2 256 m) λm1 aB=>Zac aB rfl⟩
theorem ZtW(s:Sc)(hb:m.reads b 0 s.cs):CX Tryz.prog 152 #[.pointer (some ⟨b,0,none⟩)] m [] (Ret (.bool (!ZbB s.states.length 1 24||decide (s.vars.length > 12)))):=by
 apply Zgm (c0b:=b) (c0o:=0)
 refine⟨!ZbB s.states.length 1 24||decide (s.vars.length > 12),⟨_,hb 2 _ rfl,Zaa rfl (Zah (Zeo s.states.length 1 24 m) λm1 aB=>Zab (λh=>Zaf ?_) (λh=>⟨_,(hb.mono aB) 1 _ rfl,Zaa rfl (Zaf ?_)⟩))⟩,Zac (Mem.le_refl m) rfl⟩
 ·rw[h];rfl
 ·rw[h]
  show decide ((s.vars.length:Int) > 12)=(false||decide (s.vars.length > 12))
  rw[Bool.false_or,decide_eq_decide];omega
theorem Zwk(s:Sc)(hr:RepC m s):CX Tryz.prog 137 #[s.v] m [] (Ret (.int .i64 (Zg8 s))):=by
 apply Ziy
 intro b m1 aB hb b1 hf
 have bJ:=Mem.le_add hf ([.int .i64 300,.func (.func 150) #[] #[.pointer (some ⟨b,0,none⟩)],.int .i64 302,.func (.func 152) #[] #[.pointer (some ⟨b,0,none⟩)]])
 refine Zax (Zf8 [((300,150,[.pointer (some ⟨b,0,none⟩)]),!ZbB s.n 2 256),((302,152,[.pointer (some ⟨b,0,none⟩)]),!ZbB s.states.length 1 24||decide (s.vars.length > 12))] _ 2 _ (by simp) (.inr ⟨b1,0,rfl,ZbD m1 b1 _⟩) λx hx m' hm'=>?_) λm2 aN=>Zac (mLt aB (mLt bJ aN)) rfl
 have hb':=hb.mono (mLt bJ hm')
 simp only[List.mem_cons,List.not_mem_nil,or_false]at hx
 rcases hx with rfl|rfl
 ·exact ZtV s hb'
 ·exact ZtW s hb'
theorem ZkO(v x:Va)(m:Mem)(b:Nat)(hb:m.reads b 0 v.cs):CX Tryz.prog 149 #[.agg x.cs.toArray,.pointer (some ⟨b,0,none⟩)] m [] (Ret (.bool (eqS x.s v.s))):=by
 apply Zdy (c0b:=b) (c0o:=0)
 intro b1 m1 aB _
 exact⟨_,(hb.mono aB) 0 _ rfl,Zaa rfl (Zac aB rfl)⟩
theorem Zm0(s:Sc)(i:Nat)(v:Va)(m:Mem)(b0 b1 b2:Nat)(hr:RepC m s)(hi:i<=s.vars.length)(hv:RepV v)(h0:m.reads b0 0 v.cs)(h1:m.reads b1 0 s.cs)(h2:m.reads b2 0 [.int .i64 i]):
  CX Tryz.prog 145 #[.pointer (some ⟨b0,0,none⟩),.pointer (some ⟨b1,0,none⟩),.pointer (some ⟨b2,0,none⟩)] m [] (Ret (.bool (!Zcq v.s||(!Zfi v||(s.vars.take i).any λx=>eqS x.s v.s)))):=by
 apply Zem (c0b:=b0) (c0o:=0) (c1b:=b1) (c1o:=0) (c2b:=b2) (c2o:=0)
 have gu:=hr.vlen
 unfold few at gu
 refine⟨_,h0 0 _ rfl,Zah (ZhF v.s hv.s m) λm1 aB=>Zab (λh=>Zac aB ?_) (λh=>⟨_,_,_,Zct (h0.mono aB) 1 3,Zah (ZtT v m1) λm2 aN=>Zab (λh'=>Zac (mLt aB aN) ?_) (λh'=>?_)⟩)⟩
 ·show Value.bool true=Value.bool _
  rw[h];rfl
 ·show Value.bool true=Value.bool _
  rw[h,h'];rfl
 ·have hm:=mLt aB aN
  have hc:=hr.vcap
  have key:=ZtQ (s.vars.take i) s.va s.vc 149 [.pointer (some ⟨b0,0,none⟩)] (λx=>eqS x.s v.s) m2 (by rw[List.length_take];omega) (Zpn (hr.vrow.mono hm) i) λx _ m' hm'=>ZkO v x m' b0 (h0.mono (mLt hm hm'))
  rw[List.length_take,Nat.min_eq_left hi]at key
  refine⟨_,(h1.mono hm) 1 _ rfl,_,(h2.mono hm) 0 _ rfl,Zaa rfl (Zaa rfl ⟨⟨Int.natCast_nonneg i,by show(i:Int)<=(s.vc:Int);omega⟩,Zah key λm3 aX=>Zac (mLt hm aX) ?_⟩)⟩
  show Value.bool _=Value.bool _
  rw[h,h'];rfl
theorem Zpo(s:Sc)(i:Nat)(v:Va)(m:Mem)(hr:RepC m s)(hi:s.vars[i]?=some v):CX Tryz.prog 136 #[s.v,.int .i64 i] m [] (Ret (.int .i64 (ZcE s i v))):=by
 apply Zfs
 intro b m1 aB hb b1 m2 aN cG
 have gu:=hr.vlen
 unfold few at gu
 have aO:=(zA0 hi).1
 have bJ:=mLt aB aN
 obtain⟨b2,o2,ha,hx⟩:=Zan Va.len (hr.vrow.mono bJ) hi (by omega)
 refine⟨b2,o2,ha,⟨by omega,by omega⟩,_,_,_,_,hx,λb3=>Zaa rfl λb4 hf m3 aX eQ=>?_⟩
 have mo:=mLt (Mem.le_add hf _) aX
 have cV:=mLt bJ mo
 refine Zax (Zf8 [((301,145,[.pointer (some ⟨b3,0,none⟩),.pointer (some ⟨b,0,none⟩),.pointer (some ⟨b1,0,none⟩)]),!Zcq v.s||(!Zfi v||(s.vars.take i).any λx=>eqS x.s v.s))] _ 1 _ (by simp) (.inr ⟨b4,0,rfl,(ZbD m2 b4 _).mono aX⟩) λx hx m' hm'=>?_) λm4 bI=>Zac (mLt cV bI) rfl
 simp only[List.mem_cons,List.not_mem_nil,or_false]at hx
 subst hx
 have hl':=mLt mo hm'
 exact Zm0 s i v m' b3 b b1 (hr.mono (mLt cV hm')) (by omega) (hr.vall v (zA2 hi)) (eQ.mono hm') (hb.mono (mLt aN hl')) (cG.mono hl')
theorem ZqT(v x:Sta)(m:Mem)(b:Nat)(hb:m.reads b 0 v.cs):CX Tryz.prog 155 #[.agg x.cs.toArray,.pointer (some ⟨b,0,none⟩)] m [] (Ret (.bool (eqS x.s v.s))):=by
 apply ZeL (c0b:=b) (c0o:=0)
 intro b1 m1 aB _
 exact⟨_,(hb.mono aB) 0 _ rfl,Zaa rfl (Zac aB rfl)⟩
theorem ZtX(s:Sc)(i:Nat)(v:Sta)(m:Mem)(b0 b1 b2:Nat)(hr:RepC m s)(hi:i<=s.states.length)(hv:RepS m v)(h0:m.reads b0 0 v.cs)(h1:m.reads b1 0 s.cs)(h2:m.reads b2 0 [.int .i64 i]):
  CX Tryz.prog 153 #[.pointer (some ⟨b0,0,none⟩),.pointer (some ⟨b1,0,none⟩),.pointer (some ⟨b2,0,none⟩)] m [] (Ret (.bool (!Zcq v.s||(decide (v.rules.length > 12)||(s.states.take i).any λx=>eqS x.s v.s)))):=by
 apply Zgo (c0b:=b0) (c0o:=0) (c1b:=b1) (c1o:=0) (c2b:=b2) (c2o:=0)
 have gu:=hr.len
 unfold few at gu
 refine⟨_,h0 0 _ rfl,Zah (ZhF v.s hv.s m) λm1 aB=>Zab (λh=>Zac aB ?_) (λh=>⟨_,(h0.mono aB) 1 _ rfl,Zaa rfl (Zau (λh'=>Zac aB ?_) (λh'=>?_))⟩)⟩
 ·show Value.bool true=Value.bool _
  rw[h];rfl
 ·have h':(v.rules.length:Int) > 12:=h'
  show Value.bool true=Value.bool _
  rw[h,decide_eq_true (by omega)];rfl
 ·have h':¬(v.rules.length:Int) > 12:=h'
  have hc:=hr.scap
  have key:=ZtP (s.states.take i) s.sa s.sc 155 [.pointer (some ⟨b0,0,none⟩)] (λx=>eqS x.s v.s) m1 (by rw[List.length_take];omega) (Zpn (hr.row.mono aB) i) λx _ m' hm'=>ZqT v x m' b0 (h0.mono (mLt aB hm'))
  rw[List.length_take,Nat.min_eq_left hi]at key
  refine⟨_,(h1.mono aB) 2 _ rfl,_,(h2.mono aB) 0 _ rfl,Zaa rfl (Zaa rfl ⟨⟨Int.natCast_nonneg i,by show(i:Int)<=(s.sc:Int);omega⟩,Zah key λm3 aX=>Zac (mLt aB aX) ?_⟩)⟩
  show Value.bool _=Value.bool _
  rw[h,decide_eq_false (by omega)];rfl
theorem Zwl(s:Sc)(i:Nat)(v:Sta)(m:Mem)(hr:RepC m s)(hi:s.states[i]?=some v):CX Tryz.prog 138 #[s.v,.int .i64 i] m [] (Ret (.int .i64 (Zfj s i v))):=by
 apply Ziz
 intro b m1 aB hb b1 m2 aN cG
 have gu:=hr.len
 unfold few at gu
 have aO:=(zA0 hi).1
 have bJ:=mLt aB aN
 obtain⟨b2,o2,ha,hx⟩:=Zan Sta.len (hr.row.mono bJ) hi (by omega)
 refine⟨b2,o2,ha,⟨by omega,by omega⟩,_,_,hx,λb3=>Zaa rfl λb4 hf m3 aX eQ=>?_⟩
 have mo:=mLt (Mem.le_add hf _) aX
 have cV:=mLt bJ mo
 refine Zax (Zf8 [((303,153,[.pointer (some ⟨b3,0,none⟩),.pointer (some ⟨b,0,none⟩),.pointer (some ⟨b1,0,none⟩)]),!Zcq v.s||(decide (v.rules.length > 12)||(s.states.take i).any λx=>eqS x.s v.s))] _ 1 _ (by simp) (.inr ⟨b4,0,rfl,(ZbD m2 b4 _).mono aX⟩) λx hx m' hm'=>?_) λm4 bI=>Zac (mLt cV bI) rfl
 simp only[List.mem_cons,List.not_mem_nil,or_false]at hx
 subst hx
 have hl':=mLt mo hm'
 have h0':=mLt cV hm'
 exact ZtX s i v m' b3 b b1 (hr.mono h0') (by omega) ((hr.all v (zA2 hi)).mono h0') (eQ.mono hm') (hb.mono (mLt aN hl')) (cG.mono hl')
theorem Zwm(r:Ru)(m:Mem)(b:Nat)(hr:RepR m r)(hb:m.reads b 0 r.cs):CX Tryz.prog 156 #[.pointer (some ⟨b,0,none⟩)] m [] (Ret (.bool (!ZaR r||decide (r.acts.length > 8)))):=by
 apply Zhm (c0b:=b) (c0o:=0)
 refine⟨!ZaR r||decide (r.acts.length > 8),⟨_,_,_,_,_,_,_,_,_,_,_,_,_,_,_,_,hb,Zah (ZtU r m hr) λm1 aB=>Zab (λh=>Zaf ?_) (λh=>⟨_,(hb.mono aB) 13 _ rfl,Zaa rfl (Zaf ?_)⟩)⟩,Zac (Mem.le_refl m) rfl⟩
 ·rw[h];rfl
 ·rw[h]
  show decide ((r.acts.length:Int) > 8)=(false||decide (r.acts.length > 8))
  rw[Bool.false_or,decide_eq_decide];omega
theorem Zwn(r:Ru)(total:Int)(m:Mem)(b b1:Nat)(hr:RepR m r)(hb:m.reads b 0 r.cs)(cG:m.reads b1 0 [.int .i64 total]):CX Tryz.prog 158 #[.pointer (some ⟨b,0,none⟩),.pointer (some ⟨b1,0,none⟩)] m [] (Ret (.bool (r.k == 1&&(!(r.t.check == 0)||decide (total > 600))))):=by
 apply Zhn (c0b:=b) (c0o:=0) (c1b:=b1) (c1o:=0)
 refine⟨r.k == 1&&(!(r.t.check == 0)||decide (total > 600)),⟨_,hb 0 _ rfl,Zaa rfl (Zab (λh=>⟨_,_,_,_,_,_,_,_,_,_,Zct hb 1 10,Zax (Zv7 r.bg r.en r.t m hr.t) λm1 aB=>Zab (λh2=>Zaf ?_) (λh2=>⟨_,(cG.mono aB) 0 _ rfl,Zaa rfl (Zaf ?_)⟩)⟩) (λh=>Zaf ?_))⟩,Zac (Mem.le_refl m) rfl⟩
 ·rw[show(r.k == 1)=true from h,h2];rfl
 ·rw[show(r.k == 1)=true from h,h2];rfl
 ·rw[show(r.k == 1)=false from h];rfl
theorem Zwo(s:Sc)(r:Ru)(m:Mem)(b b1:Nat)(hs:RepC m s)(hr:RepR m r)(hb:m.reads b 0 s.cs)(cG:m.reads b1 0 r.cs):CX Tryz.prog 160 #[.pointer (some ⟨b,0,none⟩),.pointer (some ⟨b1,0,none⟩)] m [] (Ret (.bool (if r.go.size=0 then !ZbB r.code 0 255 else !ZgE s r.go||!(r.code == 0)))):=by
 apply Zho (c0b:=b) (c0o:=0) (c1b:=b1) (c1o:=0)
 refine⟨_,_,_,hb,_,cG 14 _ rfl,Zai (Zyc s r.go m hs) ZtS ?_⟩
 rintro n ok m1 aB ⟨n',hv⟩
 have bY:ok=ZgE s r.go:=by
  have hv:Value.tuple (Array.mk [Value.int .i64 n,Value.bool ok])=Value.tuple #[.int .i64 n',.bool (ZgE s r.go)]:=hv
  simp only[Value.tuple.injEq,Array.mk.injEq,List.cons.injEq,Value.bool.injEq,and_true]at hv
  exact hv.2
 subst bY
 refine⟨_,(cG.mono aB) 14 _ rfl,Zaa rfl (Zab (λh=>⟨_,(cG.mono aB) 15 _ rfl,Zah (Zeo r.code 0 255 m1) λm2 aN=>Zac (mLt aB aN) ?_⟩) (λh=>⟨!ZgE s r.go||!(r.code == 0),Zab (λh2=>Zaf ?_) (λh2=>⟨_,(cG.mono aB) 15 _ rfl,Zaa rfl (Zaf ?_)⟩),Zac aB ?_⟩))⟩
 ·have h:(r.go.size == 0)=true:=by rw[<-Zcf];exact h
  show Value.bool _=Value.bool _
  rw[if_pos (by simpa using h)]
 ·rw[h2];rfl
 ·rw[h2];rfl
 ·have h:(r.go.size == 0)=false:=by rw[<-Zcf];exact h
  show Value.bool _=Value.bool _
  rw[if_neg (by simpa using h)]
theorem Zyd(s:Sc)(r:Ru)(total:Int)(m:Mem)(hs:RepC m s)(hr:RepR m r):CX Tryz.prog 139 #[s.v,.agg r.cs.toArray,.int .i64 total] m [] (Ret (.int .i64 (ZgF s r total))):=by
 apply Zkz
 intro b m1 aB hb b1 m2 aN cG b2 m3 aX eV b3 hf
 have cV:=mLt aB (mLt aN aX)
 refine Zax (Zf8 [((304,156,[.pointer (some ⟨b1,0,none⟩)]),!ZaR r||decide (r.acts.length > 8)),((305,158,[.pointer (some ⟨b1,0,none⟩),.pointer (some ⟨b2,0,none⟩)]),r.k == 1&&(!(r.t.check == 0)||decide (total > 600))),
  ((306,160,[.pointer (some ⟨b,0,none⟩),.pointer (some ⟨b1,0,none⟩)]),if r.go.size=0 then !ZbB r.code 0 255 else !ZgE s r.go||!(r.code == 0))] _ 3 _ (by simp) (.inr ⟨b3,0,rfl,ZbD m3 b3 _⟩) λx hx m' hm'=>?_) λm4 bI=>Zac (mLt cV (mLt (Mem.le_add hf _) bI)) rfl
 have hl:=mLt (Mem.le_add hf _) hm'
 have h0':=mLt cV hl
 simp only[List.mem_cons,List.not_mem_nil,or_false]at hx
 rcases hx with rfl|rfl|rfl
 ·exact Zwm r m' b1 (hr.mono h0') (cG.mono (mLt aX hl))
 ·exact Zwn r total m' b1 b2 (hr.mono h0') (cG.mono (mLt aX hl)) (eV.mono hl)
 ·exact Zwo s r m' b b1 (hs.mono h0') (hr.mono h0') (hb.mono (mLt aN (mLt aX hl))) (cG.mono (mLt aX hl))
end
def Zvc(a:Ac):Bool:=!ZbB a.k 1 3||(a.k == 1&&!(a.s.size == 0))||(a.k == 3&&decide (a.parts.length > 0))||(a.k == 3&&!a.e.clean)||(!(a.k == 3)&&!ZlI a.e)||decide (a.parts.length > 16)
theorem ZqU(a:Ac)(m:Mem)(b b1:Nat)(hr:RepA m a)(hb:m.reads b 0 a.cs)(cG:m.reads b1 0 [.bool (a.k == 3)]):CX Tryz.prog 162 #[.pointer (some ⟨b,0,none⟩),.pointer (some ⟨b1,0,none⟩)] m [] (Ret (.bool (Zvc a))):=by
 apply Zfu (c0b:=b) (c0o:=0) (c1b:=b1) (c1o:=0)
 have hw:IntKind.i64.wrap a.k=a.k:=Zam (by have:=hr.k;omega) (by have:=hr.k;omega)
 have num:∀{M:Mem} {Q:Bool->Prop},m.le M->Q (a.k == 3)->∃v:Value,M.c b1 0=some v/\∃x:Bool,v=.bool x/\Q x:=λhM h=>⟨_,(cG.mono hM) 0 _ rfl,_,rfl,h⟩
 have big:∀{M:Mem},m.le M->Zvc a=decide (a.parts.length > 16)->∃v:Value,M.c b (0+2)=some v/\chk (Zbd v) ([Value.bool (decide ((slN v:Int) > 16))]=[Value.bool (Zvc a)]):=λhM h=>⟨_,(hb.mono hM) 2 _ rfl,Zaa rfl (Zaf (by
  rw[h]
  show decide ((a.parts.length:Int) > 16)=decide (a.parts.length > 16)
  rw[decide_eq_decide];omega))⟩
 refine⟨Zvc a,?_,Zac (Mem.le_refl m) rfl⟩
 refine⟨_,hb 0 _ rfl,Zaa rfl ?_⟩
 show ∃R:RT,True/\CX Tryz.prog 151 #[.int .i64 (IntKind.i64.wrap a.k),.int .i64 1,.int .i64 3] m [] R/\_
 rw[hw]
 refine Zah (Zeo a.k 1 3 m) λm1 aB=>Zab (λh=>Zaf ?_) (λgV=>⟨_,(hb.mono aB) 0 _ rfl,Zaa rfl ?_⟩)
 ·unfold Zvc;rw[h];rfl
 cases hn:(a.k == 3)with
 | true=>
  have hk:a.k=3:=by simpa using hn
  refine ZdK (by show(a.k == 1)=false;rw[hk];rfl) (num aB (ZpX hn ⟨_,(hb.mono aB) 2 _ rfl,Zaa rfl (Zau (λh=>Zaf ?_) (λh=>num aB (ZpX hn ⟨_,_,_,_,_,Zct (hb.mono aB) 3 5,Zah (Zpi a.e m1 (RepE.mono aB _ hr.e)) λm2 aN=>Zab (λh2=>Zaf ?_) (λh2=>num (mLt aB aN) (ZdK (by rw[hn];rfl) (big (mLt aB aN) ?_)))⟩)))⟩))
  ·have h:(a.parts.length:Int) > 0:=h
   unfold Zvc;rw[hn,decide_eq_true (p:=a.parts.length > 0) (by omega),gV];simp
  ·have h:¬(a.parts.length:Int) > 0:=h
   unfold Zvc;rw[hn,h2];simp
  ·have h:¬(a.parts.length:Int) > 0:=h
   unfold Zvc;rw[hn,h2,gV,decide_eq_false (p:=a.parts.length > 0) (by omega),hk];simp
 | false=>
  refine Zab (λh1=>⟨_,(hb.mono aB) 1 _ rfl,Zaa rfl (Zab (λh=>Zaf ?_) (λh=>num aB (ZdK hn (num aB (ZdK hn (num aB (ZpX (by rw[hn];rfl) ⟨_,_,_,_,_,Zct (hb.mono aB) 3 5,Zah (Zvb a.e m1 (RepE.mono aB _ hr.e)) λm2 aN=>Zab (λh2=>Zaf ?_) (λh2=>big (mLt aB aN) ?_)⟩)))))))⟩)
   (λh1=>num aB (ZdK hn (num aB (ZdK hn (num aB (ZpX (by rw[hn];rfl) ⟨_,_,_,_,_,Zct (hb.mono aB) 3 5,Zah (Zvb a.e m1 (RepE.mono aB _ hr.e)) λm2 aN=>Zab (λh2=>Zaf ?_) (λh2=>big (mLt aB aN) ?_)⟩))))))
  ·have h1:(a.k == 1)=true:=h1
   have h:(!(a.s.size == 0))=true:=by rw[<-Zcf];exact h
   unfold Zvc;rw[h1,h];simp
  ·unfold Zvc;rw[hn,h2];simp
  ·have h:(!(a.s.size == 0))=false:=by rw[<-Zcf];exact h
   unfold Zvc;rw[hn,h2,h,gV];simp
  ·unfold Zvc;rw[hn,h2];simp
  ·have h1:(a.k == 1)=false:=h1
   unfold Zvc;rw[hn,h2,h1,gV];simp
def Zye(s:Sc)(a:Ac):Bool:=(!(a.k == 1)&&(!(Zcm s a.s).2||!((Zcm s a.s).1 == (a.k == 3))))||(a.k == 3&&!Zcg s a.e)
theorem ZqV(s:Sc)(a:Ac)(m:Mem)(b b1 b2:Nat)(hs:RepC m s)(hr:RepA m a)(hb:m.reads b 0 s.cs)(cG:m.reads b1 0 a.cs)(eV:m.reads b2 0 [.bool (a.k == 3)]):
  CX Tryz.prog 165 #[.pointer (some ⟨b,0,none⟩),.pointer (some ⟨b1,0,none⟩),.pointer (some ⟨b2,0,none⟩)] m [] (Ret (.bool (Zye s a))):=by
 apply Zfv (c0b:=b) (c0o:=0) (c1b:=b1) (c1o:=0) (c2b:=b2) (c2o:=0)
 refine⟨_,_,_,hb,_,cG 1 _ rfl,Zai (Zr8 s a.s m hs) (λv _ _ e=>by rw[show v=_ from e];rfl) ?_⟩
 intro x y m1 aB hv
 have hv:Value.tuple (Array.mk [Value.bool x,Value.bool y])=Value.tuple #[.bool (Zcm s a.s).1,.bool (Zcm s a.s).2]:=hv
 simp only[Value.tuple.injEq,Array.mk.injEq,List.cons.injEq,Value.bool.injEq,and_true]at hv
 obtain⟨rfl,rfl⟩:=hv
 have num:∀{M:Mem} {Q:Bool->Prop},m.le M->Q (a.k == 3)->∃v:Value,M.c b2 0=some v/\∃x:Bool,v=.bool x/\Q x:=λhM h=>⟨_,(eV.mono hM) 0 _ rfl,_,rfl,h⟩
 have three:Zye s a=(a.k == 3&&!Zcg s a.e)->∃v:Value,m1.c b2 0=some v/\∃x:Bool,v=.bool x/\br x (∃v v4 v5:Value,m1.reads b 0 [v,v4,v5]/\∃v6 v7 v8 v9 v10:Value,m1.reads b1 (0+3) [v6,v7,v8,v9,v10]/\∃R:RT,True/\CX Tryz.prog 167 #[.agg #[v,v4,v5],.agg #[v6,v7,v8,v9,v10]] m1 [] R/\Za1 .bool R/\∀(x:Bool)(m':Mem),m1.le m'->R (.bool x) m' []->[Value.bool !x]=[Value.bool (Zye s a)]) ([Value.bool false]=[Value.bool (Zye s a)]):=λhe=>num aB (Zab (λh3=>⟨_,_,_,hb.mono aB,_,_,_,_,_,Zct (cG.mono aB) 3 5,Zah (Zib s a.e m1 (hs.mono aB) (RepE.mono aB _ hr.e)) λm2 aN=>Zaf (by rw[he,h3];rfl)⟩) (λh3=>Zaf (by rw[he,h3];rfl)))
 refine⟨Zye s a,⟨_,(cG.mono aB) 0 _ rfl,Zaa rfl (Zab (λh1=>Zab (λh2=>Zaf ?_) (λh2=>num aB (Zab (λh3=>Zaf ?_) (λh3=>three ?_)))) (λh1=>three ?_))⟩,Zac aB rfl⟩
 ·have h1:(!(a.k == 1))=true:=h1
  unfold Zye;rw[h1,h2];rfl
 ·have h1:(!(a.k == 1))=true:=h1
  unfold Zye;rw[h1,h3];simp
 ·have h1:(!(a.k == 1))=true:=h1
  unfold Zye;rw[h1,h2,h3];rfl
 ·have h1:(!(a.k == 1))=false:=h1
  unfold Zye;rw[h1];rfl
def ZAy(r:Ru)(a:Ac):Bool:=a.k == 3&&decide (a.e.most > ZbV r)
theorem ZqW(r:Ru)(a:Ac)(m:Mem)(b b1 b2:Nat)(hr:RepR m r)(ha:RepA m a)(hb:m.reads b 0 [.bool (a.k == 3)])(cG:m.reads b1 0 a.cs)(eV:m.reads b2 0 r.cs):
  CX Tryz.prog 168 #[.pointer (some ⟨b,0,none⟩),.pointer (some ⟨b1,0,none⟩),.pointer (some ⟨b2,0,none⟩)] m [] (Ret (.bool (ZAy r a))):=by
 apply Zfw (c0b:=b) (c0o:=0) (c1b:=b1) (c1o:=0) (c2b:=b2) (c2o:=0)
 refine⟨λi _ _=>match i with
  | 4=>Ret (.int .i64 a.e.most)
  | _=>Ret (.int .i64 (ZbV r)),_,hb 0 _ rfl,_,rfl,Zab (λh=>?_) (λh M hM _ _=>Zac hM ?_)⟩
 ·refine⟨_,_,_,_,_,Zct cG 3 5,_,rfl,Zr7 a.e m ha.e,λv _ _ e=>by rw[show v=_ from e];rfl,λn m1 aB hn=>?_⟩
  obtain rfl:n=a.e.most:=by cases hn;rfl
  refine⟨_,_,_,_,_,_,_,_,_,_,_,_,_,_,_,_,eV,_,rfl,Zf7 r m1 (hr.t.mono aB),λv _ _ e=>by rw[show v=_ from e];rfl,λn1 m2 aN hn M hM _ _=>Zac hM ?_⟩
  obtain rfl:n1=ZbV r:=by cases hn;rfl
  show Value.bool _=Value.bool (ZAy r a)
  unfold ZAy;rw[h];rfl
 ·show Value.bool _=Value.bool (ZAy r a)
  unfold ZAy;rw[h];rfl
theorem ZtY(s:Sc)(r:Ru)(a:Ac)(m:Mem)(hs:RepC m s)(hr:RepR m r)(ha:RepA m a):CX Tryz.prog 140 #[s.v,.agg r.cs.toArray,.agg a.cs.toArray] m [] (Ret (.int .i64 (ZbS s r a))):=by
 apply Zhp
 intro b m1 aB hb b1 m2 aN cG b2 m3 aX eV b3 b4 hf m4 bI eQ
 have cV:=mLt aB (mLt aN aX)
 have mo:=mLt (Mem.le_add hf _) bI
 refine Zax (Zf8 [((307,162,[.pointer (some ⟨b2,0,none⟩),.pointer (some ⟨b3,0,none⟩)]),Zvc a),((308,165,[.pointer (some ⟨b,0,none⟩),.pointer (some ⟨b2,0,none⟩),.pointer (some ⟨b3,0,none⟩)]),Zye s a),
  ((309,168,[.pointer (some ⟨b3,0,none⟩),.pointer (some ⟨b2,0,none⟩),.pointer (some ⟨b1,0,none⟩)]),ZAy r a)] _ 3 _ (by simp) (.inr ⟨b4,0,rfl,(ZbD m3 b4 _).mono bI⟩) λx hx m' hm'=>?_) λm5 cP=>Zac (mLt cV (mLt mo cP)) rfl
 have hl:=mLt mo hm'
 have h0':=mLt cV hl
 simp only[List.mem_cons,List.not_mem_nil,or_false]at hx
 rcases hx with rfl|rfl|rfl
 ·exact ZqU a m' b2 b3 (ha.mono h0') (eV.mono hl) (eQ.mono hm')
 ·exact ZqV s a m' b b2 b3 (hs.mono h0') (ha.mono h0') (hb.mono (mLt aN (mLt aX hl))) (eV.mono hl) (eQ.mono hm')
 ·exact ZqW r a m' b3 b2 b1 (hr.mono h0') (ha.mono h0') (eQ.mono hm') (eV.mono hl) (cG.mono (mLt aX hl))
def Zr9(l:List Pt)(i:Nat)(p:Pt):Bool:=!Zbg p||(decide (i > 0)&&(p.k == 1&&(match l[i - 1]? with
 | some q=>q.k == 1
 | none=>false)))
theorem Zwp(l:List Pt)(a:Option Addr)(c:Nat)(i:Nat)(p:Pt)(m:Mem)(b b1 b2:Nat)(hl:l.length<=few)(aM:rowRd m a (l.map Pt.cs).flatten)(hi:i<=l.length)(hp:RepP m p)(hb:m.reads b 0 p.cs)(cG:m.reads b1 0 [.int .i64 i])(eV:m.reads b2 0 [.slice a l.length c]):
  CX Tryz.prog 171 #[.pointer (some ⟨b,0,none⟩),.pointer (some ⟨b1,0,none⟩),.pointer (some ⟨b2,0,none⟩)] m [] (Ret (.bool (Zr9 l i p))):=by
 apply Zhq (c0b:=b) (c0o:=0) (c1b:=b1) (c1o:=0) (c2b:=b2) (c2o:=0)
 unfold few at hl
 refine⟨Zr9 l i p,⟨_,_,_,_,_,_,_,_,hb,Zah (ZmZ p m hp) λm1 aB=>Zab (λh=>Zaf ?_) (λh=>⟨_,(cG.mono aB) 0 _ rfl,Zaa rfl (Zau (λh2=>⟨_,(hb.mono aB) 0 _ rfl,Zaa rfl (Zab (λh3=>?_) (λh3=>Zaf ?_))⟩) (λh2=>Zaf ?_))⟩)⟩,Zac (Mem.le_refl m) rfl⟩
 ·unfold Zr9;rw[h];rfl
 ·have h2:(i:Int) > 0:=h2
  have h3:(p.k == 1)=true:=h3
  have aO:i - 1 < l.length:=by omega
  obtain⟨q,hq⟩:=ZcG aO
  have hw:IntKind.i64.wrap ((i:Int) - 1)=((i - 1:Nat):Int):=by rw[Zam (by omega) (by omega)];omega
  obtain⟨b3,o3,ha,hx⟩:=Zan Pt.len (aM.mono aB) hq (by omega)
  refine⟨_,(eV.mono aB) 0 _ rfl,_,(cG.mono aB) 0 _ rfl,Zaa rfl (Zaa rfl ⟨b3,o3,ha,?_,.int .u8 q.k,?_,Zaa rfl (Zaf ?_)⟩)⟩
  ·show Zag (IntKind.i64.wrap ((i:Int) - 1)) l.length
   rw[hw];exact⟨by omega,by omega⟩
  ·show m1.c b3 (o3+(IntKind.i64.wrap ((i:Int) - 1)).toNat*8+0)=_
   rw[hw,zA8]
   exact hx 0 _ rfl
  ·show(q.k == 1)=_
   unfold Zr9;rw[h,decide_eq_true (p:=i > 0) (by omega),h3,hq];rfl
 ·have h3:(p.k == 1)=false:=h3
  unfold Zr9;rw[h,h3];simp
 ·have h2:¬(i:Int) > 0:=h2
  unfold Zr9;rw[h,decide_eq_false (p:=i > 0) (by omega)];rfl
def ZpZ(s:Sc)(p:Pt):Bool:=(p.k == 2&&!(Zcm s p.s).2)||(p.k == 4&&!Zcg s p.e)
theorem Zwq(s:Sc)(p:Pt)(m:Mem)(b b1:Nat)(hs:RepC m s)(hp:RepP m p)(hb:m.reads b 0 s.cs)(cG:m.reads b1 0 p.cs):
  CX Tryz.prog 173 #[.pointer (some ⟨b,0,none⟩),.pointer (some ⟨b1,0,none⟩)] m [] (Ret (.bool (ZpZ s p))):=by
 apply Zhr (c0b:=b) (c0o:=0) (c1b:=b1) (c1o:=0)
 refine⟨_,_,_,hb,_,cG 1 _ rfl,Zai (Zr8 s p.s m hs) (λv _ _ e=>by rw[show v=_ from e];rfl) ?_⟩
 intro x y m1 aB hv
 have hv:Value.tuple (Array.mk [Value.bool x,Value.bool y])=Value.tuple #[.bool (Zcm s p.s).1,.bool (Zcm s p.s).2]:=hv
 simp only[Value.tuple.injEq,Array.mk.injEq,List.cons.injEq,Value.bool.injEq,and_true]at hv
 obtain⟨rfl,rfl⟩:=hv
 refine⟨ZpZ s p,⟨_,(cG.mono aB) 0 _ rfl,Zaa rfl (Zab (λh1=>Zab (λh2=>Zaf ?_) (λh2=>⟨_,(cG.mono aB) 0 _ rfl,Zaa rfl (Zab (λh3=>⟨_,_,_,hb.mono aB,_,_,_,_,_,Zct (cG.mono aB) 3 5,Zah (Zib s p.e m1 (hs.mono aB) (RepE.mono aB _ hp.e)) λm2 aN=>Zaf ?_⟩) (λh3=>Zaf ?_))⟩))
  (λh1=>⟨_,(cG.mono aB) 0 _ rfl,Zaa rfl (Zab (λh3=>⟨_,_,_,hb.mono aB,_,_,_,_,_,Zct (cG.mono aB) 3 5,Zah (Zib s p.e m1 (hs.mono aB) (RepE.mono aB _ hp.e)) λm2 aN=>Zaf ?_⟩) (λh3=>Zaf ?_))⟩))⟩,Zac aB rfl⟩
 ·have h1:(p.k == 2)=true:=h1
  unfold ZpZ;rw[h1,h2];rfl
 ·have h1:(p.k == 2)=true:=h1
  have h3:(p.k == 4)=true:=h3
  unfold ZpZ;rw[h1,h2,h3];rfl
 ·have h1:(p.k == 2)=true:=h1
  have h3:(p.k == 4)=false:=h3
  unfold ZpZ;rw[h1,h2,h3];rfl
 ·have h1:(p.k == 2)=false:=h1
  have h3:(p.k == 4)=true:=h3
  unfold ZpZ;rw[h1,h3];rfl
 ·have h1:(p.k == 2)=false:=h1
  have h3:(p.k == 4)=false:=h3
  unfold ZpZ;rw[h1,h3];rfl
def Znk(r:Ru)(p:Pt):Bool:=(p.k == 3&&decide (p.g > ZbV r))||(p.k == 4&&decide (p.e.most > ZbV r))
theorem Zwr(r:Ru)(p:Pt)(m:Mem)(b b1:Nat)(hr:RepR m r)(hp:RepP m p)(hb:m.reads b 0 p.cs)(cG:m.reads b1 0 r.cs):
  CX Tryz.prog 174 #[.pointer (some ⟨b,0,none⟩),.pointer (some ⟨b1,0,none⟩)] m [] (Ret (.bool (Znk r p))):=by
 apply Zhs (c0b:=b) (c0o:=0) (c1b:=b1) (c1o:=0)
 refine⟨λi _ _=>match i with
  | 17=>Ret (.int .i64 p.e.most)
  | _=>Ret (.int .i64 (ZbV r)),_,hb 0 _ rfl,Zaa rfl (Zab (λh3=>?_) (λh3=>?_))⟩
 ·have h3:(p.k == 3)=true:=h3
  have hk:p.k=3:=by simpa using h3
  refine⟨_,hb 2 _ rfl,_,_,_,_,_,_,_,_,_,_,_,_,_,_,_,_,cG,_,rfl,Zf7 r m hr.t,λv _ _ e=>by rw[show v=_ from e];rfl,λn m1 aB hn=>?_⟩
  obtain rfl:n=ZbV r:=by cases hn;rfl
  refine Zaa rfl (Zau (λh=>λM hM _ _ _=>Zac hM ?_) (λh=>⟨_,(hb.mono aB) 0 _ rfl,Zaa rfl (ZdK (by show(p.k == 4)=false;rw[hk];rfl) λM hM _ _ _=>Zac hM ?_)⟩))
  ·have h:p.g > ZbV r:=h
   show Value.bool _=Value.bool (Znk r p)
   unfold Znk;rw[h3,decide_eq_true h];rfl
  ·have h:¬p.g > ZbV r:=h
   show Value.bool _=Value.bool (Znk r p)
   unfold Znk;rw[decide_eq_false h,hk];rfl
 ·have h3:(p.k == 3)=false:=h3
  refine⟨_,hb 0 _ rfl,Zaa rfl (Zab (λh4=>?_) (λh4 M hM _ _ _=>Zac hM ?_))⟩
  ·have h4:(p.k == 4)=true:=h4
   refine⟨_,_,_,_,_,Zct hb 3 5,_,rfl,Zr7 p.e m hp.e,λv _ _ e=>by rw[show v=_ from e];rfl,λn m1 aB hn=>?_⟩
   obtain rfl:n=p.e.most:=by cases hn;rfl
   refine⟨_,_,_,_,_,_,_,_,_,_,_,_,_,_,_,_,cG,_,rfl,Zf7 r m1 (hr.t.mono aB),λv _ _ e=>by rw[show v=_ from e];rfl,λn1 m2 aN hn M hM _ _ _=>Zac hM ?_⟩
   obtain rfl:n1=ZbV r:=by cases hn;rfl
   show Value.bool _=Value.bool (Znk r p)
   unfold Znk;rw[h3,h4];rfl
  ·have h4:(p.k == 4)=false:=h4
   show Value.bool _=Value.bool (Znk r p)
   unfold Znk;rw[h3,h4];rfl
theorem ZrF(s:Sc)(r:Ru)(l:List Pt)(i:Nat)(p:Pt):Zfk s r l i p=Zb9 [(307,Zr9 l i p),(308,ZpZ s p),(309,Znk r p)]:=rfl
theorem Zyf(s:Sc)(r:Ru)(l:List Pt)(a:Option Addr)(c:Nat)(i:Nat)(p:Pt)(m:Mem)(hs:RepC m s)(hr:RepR m r)(hl:l.length<=few)(aM:rowRd m a (l.map Pt.cs).flatten)(bU:∀x∈l,RepP m x)(hi:l[i]?=some p):
  CX Tryz.prog 141 #[s.v,.agg r.cs.toArray,.slice a l.length c,.int .i64 i] m [] (Ret (.int .i64 (Zfk s r l i p))):=by
 apply ZkA
 intro b m1 aB hb b1 m2 aN cG b2 m3 aX eV b3 m4 bI eQ
 have nY:=mLt aX bI
 have jh:=mLt aN nY
 have jn:=mLt aB jh
 have aO:=(zA0 hi).1
 have hl':=hl
 unfold few at hl'
 obtain⟨b4,o4,ha,hx⟩:=Zan Pt.len (aM.mono jn) hi (by omega)
 refine⟨b4,o4,ha,⟨by omega,by omega⟩,_,_,_,_,_,_,_,_,hx,λb5=>Zaa rfl λb6 hf m5 cP r4=>?_⟩
 have tU:=mLt (Mem.le_add hf _) cP
 refine Zax (Zf8 [((307,171,[.pointer (some ⟨b5,0,none⟩),.pointer (some ⟨b3,0,none⟩),.pointer (some ⟨b2,0,none⟩)]),Zr9 l i p),((308,173,[.pointer (some ⟨b,0,none⟩),.pointer (some ⟨b5,0,none⟩)]),ZpZ s p),
  ((309,174,[.pointer (some ⟨b5,0,none⟩),.pointer (some ⟨b1,0,none⟩)]),Znk r p)] _ 3 _ (by simp) (.inr ⟨b6,0,rfl,(ZbD m4 b6 _).mono cP⟩) λx hx m' hm'=>?_) λm6 iR=>Zac (mLt jn (mLt tU iR)) rfl
 have hl:=mLt tU hm'
 have h0':=mLt jn hl
 have hp:=(bU p (zA2 hi)).mono h0'
 simp only[List.mem_cons,List.not_mem_nil,or_false]at hx
 rcases hx with rfl|rfl|rfl
 ·exact Zwp l a c i p m' b5 b3 b2 (by unfold few;omega) (aM.mono h0') (by omega) hp (r4.mono hm') (eQ.mono hl) (eV.mono (mLt bI hl))
 ·exact Zwq s p m' b b5 (hs.mono h0') hp (hb.mono (mLt jh hl)) (r4.mono hm')
 ·exact Zwr r p m' b5 b1 (hr.mono h0') hp (r4.mono hm') (cG.mono (mLt nY hl))
end Go.Proofs.YtojlhhphofhaoaaGreatDoor