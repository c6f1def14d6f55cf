/- Part of the proof: functions of the program. No condition. -/
import Derived.Test.YtojlhhphofhaoaaGreatDoorPVA
import Derived.Test.YtojlhhphofhaoaaGreatDoorPC25D
import Derived.Test.YtojlhhphofhaoaaGreatDoorPVEB
set_option linter.unusedVariables false
set_option linter.unusedSimpArgs false
set_option linter.unusedSectionVars false
namespace Go.Proofs.YtojlhhphofhaoaaGreatDoor
open Go Go.Eng Go.Rx Go.Proofs Go.RowKit
set_option maxRecDepth 100000
theorem Zcf(m:Mem)(b:Nat)(cs:List Value):(m.add b cs).reads b 0 cs:=λj u hu=>by rw[Mem.add_same,Nat.zero_add];exact hu
abbrev Yn(v:Value):Nat->Prop:=λb=>(Tok.mk v 1).blk=some b
theorem ZyD{m m':Mem}{Y Y1:Nat->Prop}(h:(m.off Y).le m')(hn:∀b,Y1 b->Y b\/(m.free b/\m.k b=none)):(m.off Y).le (m'.off Y1):=by
 have no:∀b,Y1 b->(∀o,m.off Y b o=none)/\(m.off Y).k b=none:=λb hb=>by
  by_cases hY:Y b
  ·exact⟨Mem.off_free hY,Mem.off_kn hY⟩
  ·rcases hn b hb with h1|⟨h1,h2⟩
   ·exact absurd h1 hY
   ·exact⟨λo=>by rw[Mem.off_at hY];exact h1 o,by rw[Mem.off_k hY];exact h2⟩
 refine⟨λb o v hv=>?_,λb e he=>?_⟩
 ·by_cases hb:Y1 b
  ·rw[(no b hb).1 o]at hv;cases hv
  ·rw[Mem.off_at hb];exact h.c b o v hv
 ·by_cases hb:Y1 b
  ·rw[(no b hb).2]at he;cases he
  ·rw[Mem.off_k hb];exact h.k b e he
theorem Zvw{m m':Mem}(h:m.le m'){b:Nat}(hf:m'.free b/\m'.k b=none):m.free b/\m.k b=none:=by
 refine⟨λo=>?_,?_⟩
 ·cases e:m b o with
  | none=>rfl
  | some v=>have:=h.c b o v e;rw[hf.1 o]at this;cases this
 ·cases e:m.k b with
  | none=>rfl
  | some v=>have:=h.k b v e;rw[hf.2]at this;cases this
structure NmSt (m:Mem)(v0:Value)(m':Mem)(a:Option Addr)(c:Nat)(l:List ByteArray):Prop where
 row:rowRd m' a (ZfQ l)
 base:(m.off (Yn v0)).le (m'.off (Yn (.slice a l.length c)))
 new:∀b,Yn (.slice a l.length c) b->Yn v0 b\/(m.free b/\m.k b=none)
def NmR(v0:Value)(m:Mem)(l:List ByteArray):RTY:=λv m' css tvs=>∃a c,v=.slice a l.length c/\tvs=[.slice a l.length c]/\rowRd m' a (ZfQ l)/\∀b,Yn (.slice a l.length c) b->Yn v0 b\/(m.free b/\m.k b=none)
theorem ZwA{v0 m l}:∀(v:Value)(m':Mem) (css:List (List Value)) (tvs:List Value),NmR v0 m l v m' css tvs->Shape.fits .slice v=true:=λv _ _ _ ⟨_,_,e,_⟩=>by rw[e];rfl
theorem NmSt.step{m m' m'':Mem}{v0:Value}{a a':Option Addr}{c c':Nat}{l l':List ByteArray}(h:NmSt m v0 m' a c l)(bM:(m'.off (Yn (.slice a l.length c))).le m'')(hr:rowRd m'' a' (ZfQ l'))(hn:∀b,Yn (.slice a' l'.length c') b->Yn (.slice a l.length c) b\/(m'.free b/\m'.k b=none)):NmSt m v0 m'' a' c' l':=by
 refine⟨hr,mLt h.base (ZyD bM hn),λb hb=>?_⟩
 rcases hn b hb with h1|h1
 ·exact h.new b h1
 ·by_cases hY:Yn v0 b
  ·exact .inl hY
  ·have h2:=Zvw h.base (b:=b) ⟨λo=>by
    by_cases cM:Yn (.slice a l.length c) b
    ·exact Mem.off_free cM o
    ·rw[Mem.off_at cM];exact h1.1 o,by
    by_cases cM:Yn (.slice a l.length c) b
    ·exact Mem.off_kn cM
    ·rw[Mem.off_k cM];exact h1.2⟩
   refine .inr ⟨λo=>?_,?_⟩
   ·have:=h2.1 o;rwa [Mem.off_at hY]at this
   ·have:=h2.2;rwa [Mem.off_k hY]at this
theorem Zud(l:List ByteArray):(ZfQ l).length=l.length:=by unfold ZfQ;exact List.length_map _
theorem ZpT(t:E):∀(out:List ByteArray)(a:Option Addr)(c:Nat)(m:Mem),rowRd m a (ZfQ out)->RepE (m.off (Yn (.slice a out.length c))) t->(t.names out).length<=1000000->
  CXY Tryz.prog 201 #[.slice a out.length c,t.v] m (Yn (.slice a out.length c)) [] [⟨.slice a out.length c,1⟩] (NmR (.slice a out.length c) m (t.names out)):=by
 intro out a c m ho hr h1
 have fY:=Zsa t out
 have qB:RepE m t:=RepE.mono (Mem.off_le m _) t hr
 apply ZgG
 intro b m1 aB _ iA _
 refine Zaa (λhk=>?_) (λhk=>?_)
 ·have sj:t.k=9:=by simpa using hk
  have hN:=Zo3 t out
  rw[if_pos sj]at hN
  have hE:(out.any λy=>eqS t.s y)=out.any λy=>y.toList == t.s.toList:=by
   congr 1;funext w;unfold eqS;exact Bool.beq_comm
  refine Zah (ZhS out a c t.s m1 (by omega) (ho.mono aB)) λm2 aN=>Zaa (λh=>?_) (λh b2 hf=>?_)
  ·rw[hE]at h
   rw[hN,h,if_pos rfl]
   exact⟨a,c,rfl,rfl,ho.mono (mLt aB aN),λb hb=>.inl hb⟩
  ·rw[hE]at h
   rw[h,if_neg (by decide)]at hN
   have bM:m2.le (m2.add b2 [.string t.s]):=Mem.le_add hf _
   have cD:=mLt aB (mLt aN bM)
   rw[hN,List.length_append,List.length_singleton]at h1
   refine⟨.inl rfl,ZfQ out,[.string t.s],by rw[Zud];omega,rfl,ho.mono cD,.inr ⟨b2,0,rfl,Zcf m2 b2 _⟩,λu hu=>?_,by omega,by omega,λa' c' m3 aW aM hT=>?_⟩
   ·obtain rfl:u=.string t.s:=by simpa using hu
    rfl
   ·rw[hN]
    have e:(out++[t.s]).length=out.length+1:=by rw[List.length_append];rfl
    refine⟨a',c',by rw[e],by rw[e],by unfold ZfQ at aM ⊢;rw[List.map_append];exact aM,λb' hb'=>?_⟩
    rcases hT.2 with h|⟨bb,oo,ha',h⟩
    ·rw[h]at hb';simp[Yn,Tok.blk]at hb'
    ·subst ha'
     obtain rfl:bb=b':=by simpa[Yn,Tok.blk]using hb'
     rcases h with h|⟨_,h2,h3⟩
     ·left;rw[h];simp[Yn,Tok.blk]
     ·exact .inr (Zvw cD ⟨h2,h3⟩)
 ·have sj:¬t.k=9:=by simpa using hk
  have hN:=Zo3 t out
  rw[if_neg sj]at hN
  rw[hN]at h1 ⊢
  have na:=ZeP hr
  refine⟨λxs _ tks m' q=>∃(i:Nat)(a':Option Addr)(c':Nat),i<=t.subs.length/\xs=[.slice a' (ZbZ (t.subs.take i) out).length c',.int .i64 i]/\tks=[.slice a' (ZbZ (t.subs.take i) out).length c']/\NmSt m (.slice a out.length c) m' a' c' (ZbZ (t.subs.take i) out)/\q=t.subs.length - i,
   ⟨_,0,a,c,by omega,by rw[List.take_zero];rfl,by rw[List.take_zero];rfl,by
    rw[List.take_zero]
    exact⟨ho.mono aB,ZyD (mLt (Mem.off_le m _) aB) λb hb=>.inl hb,λb hb=>.inl hb⟩,rfl⟩,?_⟩
  rintro a1 n1 c1 n a2 n2 c2 m2 q aN ⟨i,a',c',hi,hx,ht,hS,hq⟩
  simp only[List.cons.injEq,Value.slice.injEq,Value.int.injEq,and_true,true_and]at hx ht
  obtain⟨⟨ea,en,ec⟩,rfl⟩:=hx
  obtain⟨ea',en',ec'⟩:=ht
  subst a1 n1 c1 a2 n2 c2 q
  refine Zaa (λaP=>?_) (λbX=>?_)
  ·have aV:i < t.subs.length:=by have:=of_decide_eq_true aP;omega
   obtain⟨x,hx⟩:=Zdw aV
   have bZ:=List.mem_of_getElem? hx
   have bU:=Zl5 bZ
   rcases na.2 with h|⟨b1,o1,ha,fR⟩
   ·rw[h]at aV;simp at aV
   obtain⟨dM,eH⟩:=(fR.mono' hS.base).get hx
   have dM:=dM.mono (Mem.off_le m2 _)
   have hw:IntKind.i64.wrap ((i:Int)+1)=((i+1:Nat):Int):=by rw[Zan (by omega) (by omega)];rfl
   have fL:=Zq8 hx out
   have oX:=ZtG (l:=t.subs) (i:=i+1) out
   refine⟨b1,o1,ha,⟨by omega,by omega⟩,_,_,_,_,_,dM,λb2=>Zab rfl ?_⟩
   refine⟨_,_,ZpT x (ZbZ (t.subs.take i) out) a' c' m2 hS.row eH (by rw[<-fL];omega),λt' ht' bb ju=>?_,λbb ju=>.inl ⟨_,by simp,ju⟩,ZwA,?_⟩
   ·obtain rfl:t'=_:=by simpa using ht'
    exact ju
   ·rintro a3 n3 c3 m3 aW _ a4 c4 d4 ⟨a5,c5,hv,eF,cK,l5⟩
    simp only[Value.slice.injEq]at hv
    obtain⟨e1,e2,e3⟩:=hv
    subst a3 n3 c3
    simp only[List.cons.injEq,Value.slice.injEq,and_true]at eF
    obtain⟨e1,e2,e3⟩:=eF
    subst a4 c4 d4
    rw[<-fL]at cK l5 ⊢
    refine⟨rfl,rfl,t.subs.length - (i+1),by omega,i+1,a5,c5,by omega,by rw[hw],rfl,hS.step aW cK l5,rfl⟩
  ·have hi':i=t.subs.length:=by have:=of_decide_eq_false bX;omega
   subst hi'
   rw[List.take_length]at hS ⊢
   exact⟨a',c',rfl,rfl,hS.row,hS.new⟩
termination_by SizeOf.sizeOf t
decreasing_by exact bU
theorem ZyE{P:Program}{g:FuncId}{args:Array Value}{m:Mem}{esz:Nat}{R:RTY}(h:CXY P g args m (Yn (.slice none 0 0)) [] [⟨.slice none 0 0,esz⟩] R):CX P g args m [] (λv m' css=>∃tvs,R v m' css tvs):=by
 have hY:∀b,¬Yn (.slice none 0 0) b:=λb hb=>by simp[Yn,Tok.blk]at hb
 have nb:m.le (m.off (Yn (.slice none 0 0))):=⟨λb o v hv=>by rw[Mem.off_at (hY b)];exact hv,λb e he=>by rw[Mem.off_k (hY b)];exact he⟩
 refine⟨h.1,λw h1 h2 h3=>(h.2 w h1 (by simp) (by simp) (λt ht=>?_) (λi j t t' b hi hj hb=>?_) (λb hb=>absurd hb (hY b))).mono ?_⟩
 ·obtain rfl:t=_:=by simpa using ht
  exact⟨.inl rfl,λb hb=>by simp[Tok.blk]at hb⟩
 ·intro _
  have hi:=List.mem_of_getElem? hi
  obtain rfl:t=_:=by simpa using hi
  simp[Tok.blk]at hb
 ·rintro e w' ⟨v,m',css,tvs,a1,a2,a3,a4,a5,a6,a7,a8,a9,a10,a11⟩
  exact⟨v,m',css,a1,mLt nb a2,a3,a4.mono λb hb=>hb.resolve_left (hY b),⟨a5.os,a5.tape,a5.output,a5.size,λk hk _=>a5.block k hk (λhm=>hm.elim (by simp) (hY k)),a5.wr⟩,a6,a7,tvs,a11⟩
def ZAX(l:List ByteArray):Value->Mem->List (List Value)->Prop:=λv m' _=>∃a c,v=.slice a l.length c/\rowRd m' a (ZfQ l)
theorem Zue{l}:∀(v:Value)(m':Mem) (css:List (List Value)),ZAX l v m' css->Shape.fits .slice v=true:=λv _ _ ⟨_,_,e,_⟩=>by rw[e];rfl
theorem ZwB(t:E)(m:Mem)(hr:RepE m t):CX Tryz.prog 187 #[t.v] m [] (ZAX t.vars):=by
 apply Znh
 intro b m1 aB _
 refine Zah (Zdg t m1 (RepE.mono' hr aB)) λm2 aN=>Zaa (λh=>Zac (mLt aB aN) ?_) (λh=>?_)
 ·have hl:t.light=false:=by simpa using h
  have:t.vars=[]:=by unfold E.vars;rw[hl];rfl
  rw[this]
  exact⟨none,0,rfl,.inl rfl⟩
 ·have hl:t.light=true:=by simpa using h
  have hv:t.vars=t.names []:=by unfold E.vars;rw[hl];rfl
  have h1:(t.names []).length<=1000000:=by
   have h2:=Zgf t []
   have h3:=of_decide_eq_true (show decide (t.nodes.length<=10000)=true from hl)
   simp only[List.length_nil]at h2
   omega
  rw[hv]
  have nb:m2.le (m2.off (Yn (.slice none 0 0))):=⟨λb o v hv=>by rw[Mem.off_at (λhb=>by simp[Yn,Tok.blk]at hb)];exact hv,λb e he=>by rw[Mem.off_k (λhb=>by simp[Yn,Tok.blk]at hb)];exact he⟩
  have key:=ZyE (ZpT t [] none 0 m2 (.inl rfl) (RepE.mono' hr (mLt aB (mLt aN nb))) h1)
  refine Zai key (λv m' css ⟨_,_,_,e,_⟩=>by rw[e];rfl) ?_
  rintro a n c m3 aW ⟨tvs,a',c',hv',_,aM,_⟩
  simp only[Value.slice.injEq]at hv'
  obtain⟨rfl,rfl,rfl⟩:=hv'
  exact ZaQ (mLt aB (mLt aN aW)) ⟨_,_,rfl,aM⟩
theorem Zmk(l:List Sta)(a:Option Addr)(c:Nat)(g:Nat)(ca:List Value)(p:Sta->Bool)(m:Mem)(hl:l.length<=1000000000000000)(hr:rowRd m a (l.map Sta.cs).flatten)
  (hp:∀x∈l,∀m',m.le m'->CX Tryz.prog g (.agg x.cs.toArray::ca).toArray m' [] (Ret (.bool (p x)))):
  CX Tryz.prog 179 #[.slice a l.length c,.func (.func g) #[] ca.toArray] m [] (Ret (.int .i64 (if l.any p then(l.findIdx p:Nat)else(-1:Int)))):=by
 apply Za9 a l.length c g [] ca
 refine⟨λxs _ _ m'' q=>∃i:Nat,i<=l.length/\xs=[.int .i64 i]/\(∀x∈l.take i,p x=false)/\q=l.length - i,⟨l.length,0,by omega,rfl,by simp,by omega⟩,?_⟩
 rintro n m' q hm ⟨i,hi,hn,eX,hq⟩
 obtain rfl:n=i:=by simpa using hn
 refine Zaa (λaP=>?_) (λbX=>?_)
 ·have aV:i < l.length:=by simpa using aP
  obtain⟨x,hx⟩:=Zdw aV
  have bZ:x∈l:=List.mem_of_getElem? hx
  obtain⟨b1,o1,ha,eR⟩:=Zal Sta.len (hr.mono hm) hx (by omega)
  refine⟨b1,o1,ha,⟨by omega,by omega⟩,_,_,eR,Zah (hp x bZ m' hm) λm1 aB=>Zaa (λfV=>?_) (λfV=>?_)⟩
  ·refine Zac (mLt hm aB) ?_
   have eZ:l.any p=true:=List.any_eq_true.2 ⟨x,bZ,fV⟩
   have gq:l.findIdx p=i:=by
    rw[List.findIdx_eq aV]
    refine⟨by rw[(List.getElem?_eq_some_iff.1 hx).2];exact fV,λj hj=>?_⟩
    exact eX _ (List.mem_of_getElem? (i:=j) (by rw[List.getElem?_take_of_lt hj];exact List.getElem?_eq_getElem (by omega)))
   simp[Ret,eZ,gq]
  ·refine⟨l.length - (i+1),by omega,i+1,by omega,by rw[Zan (by omega) (by omega)];rfl,?_,rfl⟩
   intro y hy
   rw[List.take_add_one,hx]at hy
   rcases List.mem_append.1 hy with hy|hy
   ·exact eX y hy
   ·simp at hy;rw[hy];exact fV
 ·have hi':i=l.length:=by
   have:¬((i:Int) < (l.length:Int)):=by simpa using bX
   omega
  subst hi'
  refine Zac hm ?_
  have eZ:l.any p=false:=by
   rw[List.any_eq_false]
   rw[List.take_length]at eX
   exact λx hx=>by simp[eX x hx]
  simp[Ret,eZ]
theorem Zuf(l:List Sta)(a:Option Addr)(c:Nat)(g:Nat)(ca:List Value)(p:Sta->Bool)(m:Mem)(hl:l.length<=1000000000000000)(hr:rowRd m a (l.map Sta.cs).flatten)
  (hp:∀x∈l,∀m',m.le m'->CX Tryz.prog g (.agg x.cs.toArray::ca).toArray m' [] (Ret (.bool (p x)))):
  CX Tryz.prog 154 #[.slice a l.length c,.func (.func g) #[] ca.toArray] m [] (Ret (.bool (l.any p))):=by
 apply ZaW a l.length c g [] ca
 refine Zav (Zmk l a c g ca p m hl hr hp) λm' hm=>Zac hm ?_
 cases h:l.any p <;> simp[Ret]
theorem Zml(l:List Va)(a:Option Addr)(c:Nat)(g:Nat)(ca:List Value)(p:Va->Bool)(m:Mem)(hl:l.length<=1000000000000000)(hr:rowRd m a (l.map Va.cs).flatten)
  (hp:∀x∈l,∀m',m.le m'->CX Tryz.prog g (.agg x.cs.toArray::ca).toArray m' [] (Ret (.bool (p x)))):
  CX Tryz.prog 178 #[.slice a l.length c,.func (.func g) #[] ca.toArray] m [] (Ret (.int .i64 (if l.any p then(l.findIdx p:Nat)else(-1:Int)))):=by
 apply Zbt a l.length c g [] ca
 refine⟨λxs _ _ m'' q=>∃i:Nat,i<=l.length/\xs=[.int .i64 i]/\(∀x∈l.take i,p x=false)/\q=l.length - i,⟨l.length,0,by omega,rfl,by simp,by omega⟩,?_⟩
 rintro n m' q hm ⟨i,hi,hn,eX,hq⟩
 obtain rfl:n=i:=by simpa using hn
 refine Zaa (λaP=>?_) (λbX=>?_)
 ·have aV:i < l.length:=by simpa using aP
  obtain⟨x,hx⟩:=Zdw aV
  have bZ:x∈l:=List.mem_of_getElem? hx
  obtain⟨b1,o1,ha,eR⟩:=Zal Va.len (hr.mono hm) hx (by omega)
  refine⟨b1,o1,ha,⟨by omega,by omega⟩,_,_,_,_,eR,Zah (hp x bZ m' hm) λm1 aB=>Zaa (λfV=>?_) (λfV=>?_)⟩
  ·refine Zac (mLt hm aB) ?_
   have eZ:l.any p=true:=List.any_eq_true.2 ⟨x,bZ,fV⟩
   have gq:l.findIdx p=i:=by
    rw[List.findIdx_eq aV]
    refine⟨by rw[(List.getElem?_eq_some_iff.1 hx).2];exact fV,λj hj=>?_⟩
    exact eX _ (List.mem_of_getElem? (i:=j) (by rw[List.getElem?_take_of_lt hj];exact List.getElem?_eq_getElem (by omega)))
   simp[Ret,eZ,gq]
  ·refine⟨l.length - (i+1),by omega,i+1,by omega,by rw[Zan (by omega) (by omega)];rfl,?_,rfl⟩
   intro y hy
   rw[List.take_add_one,hx]at hy
   rcases List.mem_append.1 hy with hy|hy
   ·exact eX y hy
   ·simp at hy;rw[hy];exact fV
 ·have hi':i=l.length:=by
   have:¬((i:Int) < (l.length:Int)):=by simpa using bX
   omega
  subst hi'
  refine Zac hm ?_
  have eZ:l.any p=false:=by
   rw[List.any_eq_false]
   rw[List.take_length]at eX
   exact λx hx=>by simp[eX x hx]
  simp[Ret,eZ]
theorem Zug(l:List Va)(a:Option Addr)(c:Nat)(g:Nat)(ca:List Value)(p:Va->Bool)(m:Mem)(hl:l.length<=1000000000000000)(hr:rowRd m a (l.map Va.cs).flatten)
  (hp:∀x∈l,∀m',m.le m'->CX Tryz.prog g (.agg x.cs.toArray::ca).toArray m' [] (Ret (.bool (p x)))):
  CX Tryz.prog 148 #[.slice a l.length c,.func (.func g) #[] ca.toArray] m [] (Ret (.bool (l.any p))):=by
 apply Zbd a l.length c g [] ca
 refine Zav (Zml l a c g ca p m hl hr hp) λm' hm=>Zac hm ?_
 cases h:l.any p <;> simp[Ret]
theorem ZeC(n a b:Int)(m:Mem):CX Tryz.prog 151 #[.int .i64 n,.int .i64 a,.int .i64 b] m [] (Ret (.bool (ZbF n a b))):=by
 apply Zhu
 exact⟨ZbF n a b,Zaa (λh=>by unfold ZbF;rw[h];rfl) (λh=>by unfold ZbF;rw[h];rfl),Zac (Mem.le_refl m) rfl⟩
theorem ZwC(v:Va)(name:ByteArray)(b:Nat)(m:Mem)(hb:m.reads b 0 [.string name]):CX Tryz.prog 185 #[.agg v.cs.toArray,.pointer (some ⟨b,0,none⟩)] m [] (Ret (.bool (eqS v.s name))):=by
 apply Zhv (c0b:=b) (c0o:=0)
 intro b1 m1 aB _
 exact⟨_,aB.c _ _ _ (hb 0 _ rfl),Zab rfl (Zac aB rfl)⟩
theorem ZwD{l:List Va}{p:Va->Bool}(h:l.any p=true):∃v,l[l.findIdx p]?=some v/\l.find? p=some v:=by
 induction l with
 | nil=>simp at h
 | cons x l ih=>
  cases hx:p x with
  | true=>exact⟨x,by simp[List.findIdx_cons,hx],by simp[hx]⟩
  | false=>
   obtain⟨v,h1,h2⟩:=ih (by simpa[hx]using h)
   exact⟨v,by simp[List.findIdx_cons,hx,h1],by simp[hx,h2]⟩
theorem Zuh{l:List Va}{p:Va->Bool}(h:l.any p=false):l.find? p=none:=by
 rw[List.find?_eq_none];rw[List.any_eq_false]at h;exact h
theorem ZsC(s:Sc)(name:ByteArray)(m:Mem)(hr:RepC m s):CX Tryz.prog 166 #[s.v,.string name] m [] (Ret (.tuple #[.bool (Zdj s name).1,.bool (Zdj s name).2])):=by
 apply ZkR
 intro b m1 aB _ b1 m2 aN cM
 have gB:=hr.vlen
 unfold few at gB
 have aM:=hr.vrow.mono (mLt aB aN)
 refine Zav (Zml s.vars s.va s.vc _ [.pointer (some ⟨b1,0,none⟩)] (λv=>eqS v.s name) m2 (by omega) aM λx _ m' hm'=>ZwC x name b1 m' (cM.mono hm')) λm3 aW=>?_
 have bM:=mLt aB (mLt aN aW)
 cases h:s.vars.any (λv=>eqS v.s name)with
 | true=>
  obtain⟨v,qC,nf⟩:=ZwD h
  have hk:Zdj s name=(v.b,true):=by unfold Zdj;rw[nf]
  obtain⟨b4,o4,ha,lu⟩:=Zal Va.len (aM.mono aW) qC (by omega)
  have aP:=(List.getElem?_eq_some_iff.1 qC).1
  simp only[if_true]
  refine⟨v.b,true,ZgR (decide_eq_true (by omega)) ⟨b4,o4,ha,⟨by omega,by omega⟩,.bool v.b,?_,by trivial,Zab rfl ?_⟩,Zac bM (by rw[hk])⟩
  ·have:=lu 1 _ rfl
   rw[Int.toNat_natCast];exact this
  ·rw[decide_eq_true (by omega:((List.findIdx (λv=>eqS v.s name) s.vars:Nat):Int) ≥ 0)]
 | false=>
  have hk:Zdj s name=(false,false):=by unfold Zdj;rw[Zuh h]
  refine⟨false,false,ZcI rfl ⟨by trivial,rfl⟩,Zac bM (by rw[hk])⟩
theorem ZpU(s:Sc)(name:ByteArray)(b:Nat)(m:Mem)(hr:RepC m s)(hb:m.reads b 0 s.cs):CX Tryz.prog 188 #[.string name,.pointer (some ⟨b,0,none⟩)] m [] (Ret (.bool (!(Zdj s name).1))):=by
 apply ZeU (c0b:=b) (c0o:=0)
 refine⟨_,_,_,hb,?_⟩
 refine Zai (ZsC s name m hr) (λv _ _ e=>by rw[show v=_ from e];rfl) ?_
 intro x y m1 aB hv
 have hv:Value.tuple (Array.mk [Value.bool x,Value.bool y])=Value.tuple #[.bool (Zdj s name).1,.bool (Zdj s name).2]:=hv
 simp only[Value.tuple.injEq,Array.mk.injEq,List.cons.injEq,Value.bool.injEq,and_true]at hv
 obtain⟨rfl,rfl⟩:=hv
 exact Zac aB rfl
theorem ZwE(e:E):e.vars.length<=1000000000000000:=by
 unfold E.vars
 split
 ·rename_i hl
  have h2:=Zgf e []
  have h3:=of_decide_eq_true (show decide (e.nodes.length<=10000)=true from hl)
  simp only[List.length_nil]at h2
  omega
 ·simp
theorem Ziv(s:Sc)(e:E)(m:Mem)(hr:RepC m s)(he:RepE m e):CX Tryz.prog 167 #[s.v,e.v] m [] (Ret (.bool (Zdz s e))):=by
 apply Zgw
 intro b m1 aB hb b1 m2 aN _
 refine Zai (ZwB e m2 (RepE.mono' he (mLt aB aN))) Zue ?_
 rintro a n c m3 aW ⟨a',c',hv,aM⟩
 simp only[Value.slice.injEq]at hv
 obtain⟨rfl,rfl,rfl⟩:=hv
 refine Zah (ZgH e.vars a c _ [.pointer (some ⟨b,0,none⟩)] (λn=>!(Zdj s n).1) m3 (ZwE e) aM λx _ m' hm'=>ZpU s x b m' (hr.mono (mLt aB (mLt aN (mLt aW hm')))) (hb.mono (mLt aN (mLt aW hm')))) λm4 bV=>Zac (mLt aB (mLt aN (mLt aW bV))) rfl
theorem Zvx(e:E)(m:Mem)(he:RepE m e):CX Tryz.prog 164 #[e.v] m [] (Ret (.bool (Zqu e))):=by
 apply ZkS
 intro b m1 aB _
 exact Zah (Zk9 e E0 m1 (RepE.mono' he aB) (Zxv m1)) λm2 aN=>Zac (mLt aB aN) rfl
theorem Zgk(r:Ru)(m:Mem)(hr:Rep m r.t):CX Tryz.prog 170 #[.agg r.cs.toArray] m [] (Ret (.int .i64 (Zcr r))):=by
 apply ZfH
 intro b m1 aB _
 refine Zaa (λh=>?_) (λh=>Zaa (λh2=>Zac aB ?_) (λh2=>Zac aB ?_))
 ·have hk:r.k=1:=by simpa using h
  exact Zav (ZpN r.t m1 (hr.mono aB)) λm2 aN=>Zac (mLt aB aN) (by unfold Zcr;rw[if_pos hk])
 ·have hk:¬r.k=1:=by simpa using h
  have jf:r.k=2:=by simpa using h2
  unfold Zcr;rw[if_neg hk,if_pos jf]
 ·have hk:¬r.k=1:=by simpa using h
  have jf:¬r.k=2:=by simpa using h2
  unfold Zcr;rw[if_neg hk,if_neg jf]
theorem ZpV(e:E)(m:Mem)(he:RepE m e):CX Tryz.prog 70 #[e.v] m [] (Ret (.int .i64 (nE e))):=by
 apply ZmZ
 intro b m1 aB _
 refine Zah (Zdg e m1 (RepE.mono' he aB)) λm2 aN=>Zaa (λh=>Zac (mLt aB aN) ?_) (λh=>?_)
 ·have hl:e.light=false:=by simpa using h
  unfold nE;rw[hl];rfl
 ·have hl:e.light=true:=by simpa using h
  exact Zav (Zwv e m2 (RepE.mono' he (mLt aB aN))) λm3 aW=>Zac (mLt aB (mLt aN aW)) (by unfold nE;rw[hl];rfl)
set_option maxHeartbeats 4000000 in
def CntW(b n p:Int):Prop:=0<=n/\n<=b/\(n=p\/(20000 < n/\20000 < p))
theorem CntW.out{b n p t:Int}(h:CntW b n p)(hn:n > 20000)(ht:p<=t):t > 20000:=by
 rcases h.2.2 with e|⟨_,e⟩ <;> omega
theorem CntW.eq{b n p:Int}(h:CntW b n p)(hn:¬n > 20000):n=p:=by
 rcases h.2.2 with e|⟨e,_⟩ <;> omega
theorem ZdJ(s:Sc)(m:Mem)(hr:RepC m s):CX Tryz.prog 38 #[s.v] m [] (Ret (.bool s.light)):=by
 apply Zm0
 intro b m1 aB _
 have gB:=hr.vlen
 have gm:=hr.len
 unfold few at gB gm
 have dark:∀{M:Mem},m1.le M->s.weight > 20000->∀{n:Int},n > 20000->∃m'':Mem,m.le m''/\m''.le M/\Ret (.bool s.light) (.bool (decide (n<=20000))) m'' []:=λ{M} hM hw {n} hn=>Zac (mLt aB hM) (by
  show Value.bool _=Value.bool s.light
  unfold Sc.light
  rw[decide_eq_false (by omega),decide_eq_false (by omega)])
 generalize hV:((s.vars.length:Int)+s.states.length)=V0
 have xd:0<=V0/\V0<=200000:=by omega
 rw[Zan (by omega) (by omega)]
 have t7:s.weight=V0+ZbQ (s.states.map wS):=by unfold Sc.weight;omega
 refine⟨λxs _ _ m' q=>∃(i:Nat)(n:Int),i<=s.states.length/\xs=[.int .i64 n,.int .i64 i]/\CntW 300000 n (V0+ZbQ ((s.states.take i).map wS))/\q=s.states.length - i,⟨_,0,V0,by omega,rfl,⟨by omega,by omega,.inl (by simp[ZbQ])⟩,rfl⟩,?_⟩
 rintro n k0 m2 q aN ⟨i,n',hi,hx,hC,hq⟩
 simp only[List.cons.injEq,Value.int.injEq,and_true,true_and]at hx
 obtain⟨rfl,rfl⟩:=hx
 subst hq
 have iQ:IntKind.i64.wrap ((i:Int)+1)=((i+1:Nat):Int):=by rw[Zan (by omega) (by omega)];rfl
 simp only[iQ,Int.toNat_natCast]
 refine Zaz (λaP=>?_) (λbX=>?_)
 ·have aV:i < s.states.length:=by omega
  obtain⟨x,hx⟩:=Zdw aV
  have jM:=List.mem_of_getElem? hx
  obtain⟨b1,o1,ha,eR⟩:=Zal Sta.len ((hr.mono (mLt aB aN)).row) hx (by omega)
  have dM:=hr.all x jM
  have jN:=dM.len
  unfold few at jN
  refine⟨b1,o1,ha,⟨by omega,by omega⟩,_,_,eR,λb2=>Zab rfl (Zab rfl ?_)⟩
  generalize qg:V0+ZbQ ((s.states.take i).map wS)=P0 at hC
  have t8:V0+ZbQ ((s.states.take (i+1)).map wS)=P0+wS x:=by rw[ZeQ wS hx];omega
  have vK:P0+wS x<=s.weight:=by rw[<-t8,t7];have:=Zkq wS ZAN s.states (i+1);omega
  refine⟨λxs _ _ m' q=>∃(k:Nat)(n:Int),k<=x.rules.length/\xs=[.int .i64 n,.int .i64 k]/\CntW 300000 n (P0+ZbQ ((x.rules.take k).map wR))/\q=x.rules.length - k,⟨_,0,n,by omega,rfl,by simpa[ZbQ]using hC,rfl⟩,?_⟩
  rintro n1 k1 m3 q aW ⟨k,n1',hk,iu,l6,hq⟩
  simp only[List.cons.injEq,Value.int.injEq,and_true,true_and]at iu
  obtain⟨rfl,rfl⟩:=iu
  subst hq
  have iE:IntKind.i64.wrap ((k:Int)+1)=((k+1:Nat):Int):=by rw[Zan (by omega) (by omega)];rfl
  simp only[iE,Int.toNat_natCast]
  have dN:m.le m3:=mLt aB (mLt aN aW)
  refine Zaz (λfJ=>?_) (λfM=>?_)
  ·have kD:k < x.rules.length:=by have:(k:Int) < (x.rules.length:Int):=fJ;omega
   obtain⟨r,gu⟩:=Zdw kD
   have qB:=List.mem_of_getElem? gu
   have fW:=dM.all r qB
   obtain⟨b3,o3,gA,kE⟩:=Zal Ru.len ((dM.row).mono dN) gu (by omega)
   have pi:=fW.len
   unfold few at pi
   generalize xe:P0+ZbQ ((x.rules.take k).map wR)=P1 at l6
   have pj:P0+ZbQ ((x.rules.take (k+1)).map wR)=P1+wR r:=by rw[ZeQ wR gu];omega
   have vL:P1+wR r<=s.weight:=by
    rw[<-pj]
    have:=Zkq wR Zyd x.rules (k+1)
    unfold wS at vK
    omega
   refine Zab rfl ⟨b3,o3,gA,⟨by omega,by show(k:Int) < (x.rules.length:Int);omega⟩,_,_,_,_,_,_,_,_,_,_,_,_,_,_,_,_,kE,λb4=>Zab rfl ?_⟩
   have bU:=ZjO r.t
   refine Zav (Zsu r.t m3 (fW.t.mono dN)) λm4 bV=>?_
   have jJ:(if(20000:Int) < r.t.size then(20000:Int)else r.t.size)=ZgS r.t.size 20000:=rfl
   have fO:0<=ZgS r.t.size 20000/\ZgS r.t.size 20000<=20000:=by unfold ZgS;split <;> omega
   rw[jJ]
   have xf:=l6.1
   have xg:=l6.2.1
   refine⟨λxs _ _ m'=>∃n:Int,xs=[.int .i64 n]/\CntW 330000 n (P1+1+ZgS r.t.size 20000+(if r.t.light then 0 else 20001)),?_,?_⟩
   ·refine Zah (Zd3 r.t m4 (fW.t.mono (mLt dN bV))) λm5 dD=>Zaa (λh=>⟨by trivial,20001,rfl,?_⟩) (λh=>⟨by trivial,_,rfl,?_⟩)
    ·have hl:r.t.light=false:=by simpa using h
     rw[hl,if_neg (by decide)]
     have hp:0<=P1:=by rcases l6.2.2 with e|⟨_,e⟩ <;> omega
     exact⟨by omega,by omega,.inr ⟨by omega,by omega⟩⟩
    ·have hl:r.t.light=true:=by simpa using h
     rw[hl,if_pos rfl,Zan (n:=1+ZgS r.t.size 20000) (by omega) (by omega),Zan (by omega) (by omega)]
     refine⟨by omega,by omega,?_⟩
     rcases l6.2.2 with e|⟨e1,e2⟩
     ·left;omega
     ·right;omega
   ·rintro n2 m5 dD ⟨n2',mu,sk⟩
    obtain rfl:n2=n2':=by simpa using mu
    generalize vM:P1+1+ZgS r.t.size 20000+(if r.t.light then 0 else 20001)=P2 at sk
    have iF:wR r=(P2 - P1)+ZbQ (r.acts.map wA):=by unfold wR;rw[<-vM];omega
    have pk:m.le m5:=mLt dN (mLt bV dD)
    refine Zab rfl ⟨λxs _ _ m' q=>∃(j:Nat)(n:Int),j<=r.acts.length/\xs=[.int .i64 n,.int .i64 j]/\CntW (330000+j*200000) n (P2+ZbQ ((r.acts.take j).map wA))/\q=r.acts.length - j,⟨_,0,n2,by omega,rfl,by simpa[ZbQ]using sk,rfl⟩,?_⟩
    rintro n3 k3 m6 q gM ⟨j,n3',hj,lu,l7,hq⟩
    simp only[List.cons.injEq,Value.int.injEq,and_true,true_and]at lu
    obtain⟨rfl,rfl⟩:=lu
    subst hq
    have vN:IntKind.i64.wrap ((j:Int)+1)=((j+1:Nat):Int):=by rw[Zan (by omega) (by omega)];rfl
    simp only[vN,Int.toNat_natCast]
    have jA:=mLt pk gM
    have eY:=l7.1
    have t9:=l7.2.1
    refine Zaz (λkG=>?_) (λlw=>?_)
    ·have pm:j < r.acts.length:=by have:(j:Int) < (r.acts.length:Int):=kG;omega
     obtain⟨a,jO⟩:=Zdw pm
     have kH:=fW.all a (List.mem_of_getElem? jO)
     obtain⟨b5,o5,la,qD⟩:=Zal Ac.len ((fW.row).mono jA) jO (by omega)
     have l3:=kH.n
     unfold few at l3
     have xh:=Zo4 a.e
     generalize xi:P2+ZbQ ((r.acts.take j).map wA)=P3 at l7
     have sm:P2+ZbQ ((r.acts.take (j+1)).map wA)=P3+wA a:=by rw[ZeQ wA jO];omega
     have vO:P3+wA a<=s.weight:=by
      have:=Zkq wA Zyc r.acts (j+1)
      omega
     refine Zab rfl ⟨b5,o5,la,⟨by omega,by show(j:Int) < (r.acts.length:Int);omega⟩,_,_,_,_,_,_,_,_,qD,λb6=>Zab rfl ?_⟩
     refine⟨λ_ _ _=>Ret (.int .i64 (nE a.e)),_,rfl,ZpV a.e m6 (RepE.mono' kH.e jA),λv _ _ e=>by rw[show v=_ from e];rfl,λn8 m7 jB sn=>Zab rfl λM jL gR=>Zab rfl ?_⟩
     obtain rfl:n8=nE a.e:=by cases sn;rfl
     have so:slN (Value.slice a.pa a.parts.length a.pc)=a.parts.length:=rfl
     rw[so,Zan (n:=1+nE a.e) (by omega) (by omega),Zan (n:=1+nE a.e+(a.parts.length:Int)) (by omega) (by omega),Zan (by omega) (by omega)]
     have vP:wA a=(1+nE a.e+a.parts.length)+ZbQ (a.parts.map λp=>nE p.e):=by unfold wA;omega
     have vQ:=mLt jA jL
     refine⟨λxs _ _ m' q=>∃(w:Nat)(n:Int),w<=a.parts.length/\xs=[.int .i64 n,.int .i64 w]/\CntW (330000+(j+1)*200000) n (P3+(1+nE a.e+a.parts.length)+ZbQ ((a.parts.take w).map λp=>nE p.e))/\q=a.parts.length - w,⟨_,0,_,by omega,rfl,⟨by omega,by omega,?_⟩,rfl⟩,?_⟩
     ·simp only[List.take_zero,List.map_nil,ZbQ]
      rcases l7.2.2 with e|⟨e1,e2⟩
      ·left;omega
      ·right;omega
     rintro n4 k4 m8 q gY ⟨w,n4',hw,ng,nh,hq⟩
     simp only[List.cons.injEq,Value.int.injEq,and_true,true_and]at ng
     obtain⟨rfl,rfl⟩:=ng
     subst hq
     have sq:IntKind.i64.wrap ((w:Int)+1)=((w+1:Nat):Int):=by rw[Zan (by omega) (by omega)];rfl
     simp only[sq,Int.toNat_natCast]
     have qE:=mLt vQ gY
     have vR:m1.le m8:=mLt aN (mLt aW (mLt bV (mLt dD (mLt gM (mLt jL gY)))))
     have nO:=nh.1
     have sr:=nh.2.1
     refine Zaz (λlx=>?_) (λly=>?_)
     ·have pn:w < a.parts.length:=by have:(w:Int) < (a.parts.length:Int):=lx;omega
      obtain⟨p,jT⟩:=Zdw pn
      have kZ:=kH.all p (List.mem_of_getElem? jT)
      obtain⟨b7,o7,ss,vS⟩:=Zal Pt.len ((kH.row).mono qE) jT (by omega)
      have xj:=Zo4 p.e
      have dI:=ZeQ (λp:Pt=>nE p.e) jT
      have vT:=Zkq (λp:Pt=>nE p.e) (λp=>(Zo4 p.e).1) a.parts w
      refine Zab rfl ⟨b7,o7,ss,⟨by omega,by show(w:Int) < (a.parts.length:Int);omega⟩,_,_,_,_,_,_,_,_,vS,λb8=>Zab rfl (Zaz (λhd=>dark vR (nh.out hd (by omega)) hd) (λhd=>?_))⟩
      refine Zav (ZpV p.e m8 (RepE.mono' kZ.e qE)) λm9 ni=>⟨by trivial,a.parts.length - (w+1),by omega,w+1,_,by omega,rfl,?_,rfl⟩
      have he:=nh.eq hd
      rw[Zan (by omega) (by omega),dI]
      exact⟨by omega,by omega,.inl (by omega)⟩
     ·have hw':w=a.parts.length:=by have:¬(w:Int) < (a.parts.length:Int):=ly;omega
      subst hw'
      rw[List.take_length]at nh
      refine⟨by trivial,r.acts.length - (j+1),by omega,j+1,n4,by omega,rfl,?_,rfl⟩
      rw[sm,vP]
      exact⟨nh.1,by push_cast;omega,by rcases nh.2.2 with e|e;left;omega;right;omega⟩
    ·have hj':j=r.acts.length:=by have:¬(j:Int) < (r.acts.length:Int):=lw;omega
     subst hj'
     rw[List.take_length]at l7
     have nS:m1.le m6:=mLt aN (mLt aW (mLt bV (mLt dD gM)))
     refine Zaz (λhd=>dark nS (l7.out hd (by omega)) hd) (λhd=>⟨by trivial,x.rules.length - (k+1),by omega,k+1,n3,by omega,rfl,?_,rfl⟩)
     rw[pj,iF]
     exact⟨l7.1,by omega,.inl (by have:=l7.eq hd;omega)⟩
  ·have hk':k=x.rules.length:=by have:¬(k:Int) < (x.rules.length:Int):=fM;omega
   subst hk'
   rw[List.take_length]at l6
   refine⟨by trivial,s.states.length - (i+1),by omega,i+1,n1,by omega,rfl,?_,rfl⟩
   rw[t8];exact l6
 ·have hi':i=s.states.length:=by omega
  subst hi'
  rw[List.take_length,<-t7]at hC
  refine Zac (mLt aB aN) ?_
  show Value.bool _=Value.bool s.light
  unfold Sc.light
  congr 1
  rw[decide_eq_decide]
  rcases hC.2.2 with e|⟨e1,e2⟩ <;> omega
theorem ZwF(x:Sta)(name:ByteArray)(b:Nat)(m:Mem)(hb:m.reads b 0 [.string name]):CX Tryz.prog 183 #[.agg x.cs.toArray,.pointer (some ⟨b,0,none⟩)] m [] (Ret (.bool (eqS x.s name))):=by
 apply ZkN (c0b:=b) (c0o:=0)
 intro b1 m1 aB _
 exact⟨_,(hb.mono aB) 0 _ rfl,Zab rfl (Zac aB rfl)⟩
def ZAY(s:Sc)(name:ByteArray):Value->Mem->List (List Value)->Prop:=λv _ _=>∃n:Int,v=.tuple #[.int .i64 n,.bool (Zkr s name)]
theorem Zui{s name}:∀(v:Value)(m':Mem) (css:List (List Value)),ZAY s name v m' css->Shape.fits (.tup [.int .i64,.bool]) v=true:=λv _ _ ⟨_,e⟩=>by rw[e];rfl
theorem ZyF(s:Sc)(name:ByteArray)(m:Mem)(hr:RepC m s):CX Tryz.prog 161 #[s.v,.string name] m [] (ZAY s name):=by
 apply Zpx
 intro b m1 aB _ b1 m2 aN cM
 have gm:=hr.len
 unfold few at gm
 have bM:=mLt aB aN
 refine Zav (Zmk s.states s.sa s.sc _ [.pointer (some ⟨b1,0,none⟩)] (λx=>eqS x.s name) m2 (by omega) (hr.row.mono bM) λx _ m' hm'=>ZwF x name b1 m' (cM.mono hm')) λm3 aW=>?_
 have dN:=mLt bM aW
 cases h:s.states.any (λx=>eqS x.s name)with
 | true=>
  refine⟨!s.light,ZcI (decide_eq_false (by simp)) ?_,Zaa (λhl=>Zac dN ⟨_,by unfold Zkr;rw[h];simp at hl;rw[hl];rfl⟩) (λhl=>Zac dN ⟨_,by unfold Zkr;rw[h];simp at hl;rw[hl];rfl⟩)⟩
  exact Zah (ZdJ s m3 (hr.mono dN)) λm4 bV=>⟨by trivial,rfl⟩
 | false=>
  refine⟨true,ZgR rfl ⟨by trivial,rfl⟩,ZgR rfl (Zac dN ⟨_,by unfold Zkr;rw[h];rfl⟩)⟩
def ZBO(a:Int×Nat×List Value):List Value:=[.int .i64 a.1,.func (.func a.2.1) #[] a.2.2.toArray]
theorem ZwG(a:Int×Nat×List Value):(ZBO a).length=2:=rfl
theorem Zgl(l:List ((Int×Nat×List Value)×Bool))(a:Option Addr)(c:Nat)(m:Mem)(hl:l.length<=100000)(hr:rowRd m a (l.map λx=>ZBO x.1).flatten)
  (hp:∀x∈l,∀m',m.le m'->CX Tryz.prog x.1.2.1 x.1.2.2.toArray m' [] (Ret (.bool x.2))):
  CX Tryz.prog 144 #[.slice a l.length c] m [] (Ret (.int .i64 (Zcl (l.map λx=>(x.1.1,x.2))))):=by
 apply ZiO a l.length c
 refine⟨λxs _ _ m'' q=>∃i:Nat,i<=l.length/\xs=[.int .i64 0,.int .i64 i]/\Zcl (l.map λx=>(x.1.1,x.2))=Zcl ((l.drop i).map λx=>(x.1.1,x.2))/\q=l.length - i,⟨l.length,0,by omega,rfl,rfl,by omega⟩,?_⟩
 rintro n k m1 q aB ⟨i,hi,hx,he,hq⟩
 simp only[List.cons.injEq,Value.int.injEq,and_true,true_and]at hx
 obtain⟨rfl,rfl⟩:=hx
 refine Zaz (λaP=>?_) (λbX=>?_)
 ·have aV:i < l.length:=by have:(i:Int) < (l.length:Int):=aP;omega
  obtain⟨x,hx⟩:=Zdw aV
  have hd:l.drop i=x::l.drop (i+1):=by
   rw[List.drop_eq_getElem_cons aV,(List.getElem?_eq_some_iff.1 hx).2]
  obtain⟨b1,o1,ha,eR⟩:=Zal (cs:=λx:(Int×Nat×List Value)×Bool=>ZBO x.1) (λx=>ZwG x.1) (hr.mono aB) hx (by omega)
  refine⟨b1,o1,ha,⟨by omega,by show(i:Int) < (l.length:Int);omega⟩,_,_,eR,λb2=>Zab rfl ⟨_,_,_,rfl,?_⟩⟩
  refine Zah (hp x (List.mem_of_getElem? hx) m1 aB) λm2 aN=>Zaa (λh=>Zac (mLt aB aN) ?_) (λh=>?_)
  ·show Value.int _ _=Value.int _ _
   rw[he,hd,List.map_cons,Zcl,if_pos h]
  ·refine⟨l.length - (i+1),by omega,i+1,by omega,by rw[Zan (by omega) (by omega)];rfl,?_,rfl⟩
   rw[he,hd,List.map_cons,Zcl,if_neg (by rw[h];decide)]
 ·have hi':i=l.length:=by have:¬(i:Int) < (l.length:Int):=bX;omega
  refine Zac aB ?_
  show Value.int _ _=Value.int _ _
  rw[he,hi',List.drop_length];rfl
theorem Zuj(v:Va)(m:Mem):CX Tryz.prog 147 #[.agg #[.bool v.b,.string v.t,.float .f64 v.x]] m [] (Ret (.bool (Zfz v))):=by
 apply ZkP
 intro b m1 aB _
 refine Zaa (λhb=>⟨Zfz v,Zah (ZpP v.x m1) λm2 aN=>Zaa (λh=>⟨by trivial,Zaf ?_⟩) (λh=>⟨by trivial,Zaf ?_⟩),Zac aB rfl⟩) (λhb=>⟨Zfz v,⟨_,ZpO v.x,Zab rfl (Zaa (λh=>⟨by trivial,Zaf ?_⟩) (λh=>⟨by trivial,Zaf ?_⟩))⟩,Zac aB rfl⟩)
 ·unfold Zfz;rw[hb,if_pos rfl,h,Zck];rfl
 ·unfold Zfz;rw[hb,if_pos rfl,h];rfl
 ·unfold Zfz;rw[hb,if_neg (by decide)]
  have:v.x=0:=by
   have h2:=eq_of_beq (show((v.x:Int) == 0)=true from h);omega
  rw[this]
  show decide ((v.t.size:Int)<=512)=(true&&decide (v.t.size<=512))
  rw[Bool.true_and,decide_eq_decide];omega
 ·unfold Zfz;rw[hb,if_neg (by decide)]
  have:¬v.x=0:=by
   intro e
   have h2:((v.x:Int) == 0)=false:=h
   rw[e]at h2;simp at h2
  rw[beq_eq_false_iff_ne.2 this];rfl
theorem Zla(p q:Pt)(b:Nat)(m:Mem)(hq:RepP m q)(hb:m.reads b 0 q.cs):CX Tryz.prog 189 #[p.v,.pointer (some ⟨b,0,none⟩)] m [] (Ret (.bool (q.s.toList == p.s.toList&&(q.g == p.g&&(p.k == 4||Zqu q.e))))):=by
 apply Zdd (c0b:=b) (c0o:=0)
 intro b1 m1 aB _
 have cM:=hb.mono aB
 refine⟨q.s.toList == p.s.toList&&(q.g == p.g&&(p.k == 4||Zqu q.e)),⟨_,cM 1 _ rfl,Zab rfl (Zaa (λh=>⟨_,cM 2 _ rfl,Zab rfl (Zaa (λh2=>Zaa (λh3=>⟨by trivial,Zaf ?_⟩) (λh3=>⟨q.e.k |> Value.int .u8,.float .f64 q.e.x,.string q.e.s,.int .i64 q.e.g,.slice q.e.a q.e.subs.length q.e.c,?_,?_⟩)) (λh2=>⟨by trivial,Zaf ?_⟩))⟩) (λh=>⟨by trivial,Zaf ?_⟩))⟩,Zac aB rfl⟩
 ·have h:(q.s.toList == p.s.toList)=true:=h
  have h2:(q.g == p.g)=true:=h2
  rw[h,h2,h3];rfl
 ·exact λi v hi=>by
   have:=cM (3+i) v (by unfold Pt.cs;rw[show 3+i=i+3 from by omega];exact hi)
   rw[show 0+3+i=0+(3+i) from by omega];exact this
 ·have h:(q.s.toList == p.s.toList)=true:=h
  have h2:(q.g == p.g)=true:=h2
  refine Zah (Zk9 q.e E0 m1 (RepE.mono aB _ hq.e) (Zxv m1)) λm2 aN=>⟨by trivial,Zaf ?_⟩
  rw[h,h2,h3];rfl
 ·have h:(q.s.toList == p.s.toList)=true:=h
  have h2:(q.g == p.g)=false:=h2
  rw[h,h2];rfl
 ·have h:(q.s.toList == p.s.toList)=false:=h
  rw[h];rfl
theorem Znp(p:Pt)(m:Mem)(hp:RepP m p):CX Tryz.prog 172 #[p.v] m [] (Ret (.bool (ZbG p))):=by
 apply ZdH
 intro b m1 aB hb
 have tP:=hp.mono aB
 have one:=λ(p':Pt)(M:Mem)(hM:m1.le M)=>Zla p' p b M (tP.mono hM) (hb.mono hM)
 have j0:∀x:ByteArray,((⟨#[]⟩:ByteArray).toList == x.toList)=(x.size == 0):=λx=>by rw[<-Zck,Bool.beq_comm]
 refine Zaa (λh1=>⟨ZbG p,Zaz (λh2=>Zaz (λh3=>Zah (one ⟨p.k,p.s,0,E0⟩ m1 (Mem.le_refl _)) λm2 aN=>⟨by trivial,Zaf ?_⟩) (λh3=>⟨by trivial,Zaf ?_⟩)) (λh2=>⟨by trivial,Zaf ?_⟩),Zac aB rfl⟩)
  (λh1=>Zaa (λh2=>⟨ZbG p,Zah (ZhU p.s hp.s m1) λm2 aN=>Zaa (λh3=>Zah (one ⟨p.k,p.s,0,E0⟩ m2 aN) λm3 aW=>⟨by trivial,Zaf ?_⟩) (λh3=>⟨by trivial,Zaf ?_⟩),Zac aB rfl⟩)
   (λh2=>Zaa (λh3=>⟨ZbG p,Zaz (λh4=>Zaz (λh5=>Zah (one ⟨p.k,⟨#[]⟩,p.g,E0⟩ m1 (Mem.le_refl _)) λm2 aN=>⟨by trivial,Zaf ?_⟩) (λh5=>⟨by trivial,Zaf ?_⟩)) (λh4=>⟨by trivial,Zaf ?_⟩),Zac aB rfl⟩)
    (λh3=>Zaa (λh4=>⟨ZbG p,Zah (ZpR p.e m1 (RepE.mono aB _ hp.e)) λm2 aN=>Zaa (λh5=>Zah (one ⟨p.k,⟨#[]⟩,0,E0⟩ m2 aN) λm3 aW=>⟨by trivial,Zaf ?_⟩) (λh5=>⟨by trivial,Zaf ?_⟩),Zac aB rfl⟩) (λh4=>Zac aB ?_))))
 ·have k1:p.k=1:=by simpa using h1
  have g2:p.s.size > 0:=by omega
  have g3:p.s.size<=512:=by omega
  unfold ZbG;simp[k1,g2,g3]
 ·have k1:p.k=1:=by simpa using h1
  have g3:¬p.s.size<=512:=by omega
  unfold ZbG;rw[if_pos k1,decide_eq_false g3];simp
 ·have k1:p.k=1:=by simpa using h1
  have g2:¬p.s.size > 0:=by omega
  unfold ZbG;rw[if_pos k1,decide_eq_false g2];rfl
 ·have k2:p.k=2:=by simpa using h2
  unfold ZbG;simp[k2,h3]
 ·have k2:p.k=2:=by simpa using h2
  unfold ZbG;simp[k2,h3]
 ·have k3:p.k=3:=by simpa using h3
  unfold ZbG;rw[if_neg (by omega),if_neg (by omega),if_pos k3,decide_eq_true h4,decide_eq_true h5,Zck];simp[k3]
 ·have k3:p.k=3:=by simpa using h3
  unfold ZbG;rw[if_neg (by omega),if_neg (by omega),if_pos k3,decide_eq_false h5];simp
 ·have k3:p.k=3:=by simpa using h3
  unfold ZbG;rw[if_neg (by omega),if_neg (by omega),if_pos k3,decide_eq_false h4];simp
 ·have k4:p.k=4:=by simpa using h4
  unfold ZbG;rw[if_neg (by omega),if_neg (by omega),if_neg (by omega),if_pos k4,h5,Zck];simp[k4]
 ·have k4:p.k=4:=by simpa using h4
  unfold ZbG;rw[if_neg (by omega),if_neg (by omega),if_neg (by omega),if_pos k4,h5];rfl
 ·have k1:¬p.k=1:=by simpa using h1
  have k2:¬p.k=2:=by simpa using h2
  have k3:¬p.k=3:=by simpa using h3
  have k4:¬p.k=4:=by simpa using h4
  show Value.bool false=Value.bool (ZbG p)
  unfold ZbG;rw[if_neg k1,if_neg k2,if_neg k3,if_neg k4]
theorem Zuk(r:Ru)(m:Mem)(hr:RepR m r):CX Tryz.prog 157 #[.agg r.cs.toArray] m [] (Ret (.bool (Za7 r))):=by
 apply Zhx
 intro b m1 aB _
 refine⟨Zzm r,Zaa (λh=>⟨by trivial,Zaf ?_⟩) (λh=>Zaa (λh2=>⟨by trivial,Zaf ?_⟩) (λh2=>Zah (Zvv r.t T0 m1 (hr.t.mono aB) (Zz9 m1)) λm2 aN=>⟨by trivial,Zaf ?_⟩)),?_⟩
 ·unfold Zzm;rw[h];rfl
 ·unfold Zzm;rw[h,h2];rfl
 ·unfold Zzm;rw[h,h2];rfl
 refine Zaa (λk2=>?_) (λk2=>Zaa (λk4=>?_) (λk4=>Zaa (λk3=>?_) (λk3=>Zaa (λk1=>?_) (λk1=>?_))))
 ·have k2:r.k=2:=by simpa using k2
  refine⟨Za7 r,Zaa (λh=>Zaa (λh2=>Zah (ZeC r.s.size 1 64 m1) λm2 aN=>⟨by trivial,Zaf ?_⟩) (λh2=>⟨by trivial,Zaf ?_⟩)) (λh=>⟨by trivial,Zaf ?_⟩),Zac aB rfl⟩
  ·unfold Za7;rw[if_pos k2,h,show(r.n == 0)=true from h2];rfl
  ·unfold Za7;rw[if_pos k2,h,show(r.n == 0)=false from h2];rfl
  ·unfold Za7;rw[if_pos k2,h];rfl
 ·have k2:¬r.k=2:=by simpa using k2
  have k4:r.k=4:=by simpa using k4
  refine⟨Za7 r,Zaa (λh=>Zaa (λh2=>Zah (ZeC r.n 1 1000 m1) λm2 aN=>⟨by trivial,Zaf ?_⟩) (λh2=>⟨by trivial,Zaf ?_⟩)) (λh=>⟨by trivial,Zaf ?_⟩),Zac aB rfl⟩
  ·rw[Zck]at h2;unfold Za7;rw[if_neg k2,if_pos k4,h,h2];rfl
  ·rw[Zck]at h2;unfold Za7;rw[if_neg k2,if_pos k4,h,h2];rfl
  ·unfold Za7;rw[if_neg k2,if_pos k4,h];rfl
 ·have k2:¬r.k=2:=by simpa using k2
  have k4:¬r.k=4:=by simpa using k4
  have k3:r.k=3:=by simpa using k3
  refine Zaa (λh=>Zac aB ?_) (λh=>⟨Za7 r,Zaa (λh2=>⟨by trivial,Zaf ?_⟩) (λh2=>⟨by trivial,Zaf ?_⟩),Zac aB rfl⟩)
  ·show Value.bool false=Value.bool (Za7 r)
   unfold Za7;rw[if_neg k2,if_neg k4,if_pos k3,h];rfl
  ·rw[Zck]at h2;unfold Za7;rw[if_neg k2,if_neg k4,if_pos k3,h,h2];rfl
  ·rw[Zck]at h2;unfold Za7;rw[if_neg k2,if_neg k4,if_pos k3,h,h2];rfl
 ·have k2:¬r.k=2:=by simpa using k2
  have k4:¬r.k=4:=by simpa using k4
  have k3:¬r.k=3:=by simpa using k3
  have k1:r.k=1:=by simpa using k1
  refine⟨Za7 r,Zaa (λh2=>⟨by trivial,Zaf ?_⟩) (λh2=>⟨by trivial,Zaf ?_⟩),Zac aB rfl⟩
  ·rw[Zck]at h2;unfold Za7;rw[if_neg k2,if_neg k4,if_neg k3,if_pos k1,h2];rfl
  ·rw[Zck]at h2;unfold Za7;rw[if_neg k2,if_neg k4,if_neg k3,if_pos k1,h2];rfl
 ·have k2:¬r.k=2:=by simpa using k2
  have k4:¬r.k=4:=by simpa using k4
  have k3:¬r.k=3:=by simpa using k3
  have k1:¬r.k=1:=by simpa using k1
  refine Zac aB ?_
  show Value.bool false=Value.bool (Za7 r)
  unfold Za7;rw[if_neg k2,if_neg k4,if_neg k3,if_neg k1]
theorem Zcz{m:Mem}{b o:Nat}{cs:List Value}(h:m.reads b o cs)(k n:Nat):m.reads b (o+k) ((cs.drop k).take n):=λi v hi=>by
 rw[Nat.add_assoc]
 refine h (k+i) v ?_
 rw[List.getElem?_take]at hi
 split at hi
 ·rwa [List.getElem?_drop]at hi
 ·cases hi
theorem ZpW{α:Type}{cs:α->List Value}{m:Mem}{a:Option Addr}{L:List α}(h:rowRd m a (L.map cs).flatten)(k:Nat):rowRd m a ((L.take k).map cs).flatten:=by
 have e:(L.map cs).flatten=((L.take k).map cs).flatten++((L.drop k).map cs).flatten:=by
  rw[<-List.flatten_append,<-List.map_append,List.take_append_drop]
 rw[e]at h
 rcases h with h|⟨b,o,ha,h⟩
 ·exact .inl (List.append_eq_nil_iff.1 h).1
 ·refine .inr ⟨b,o,ha,λj v hj=>h j v ?_⟩
  rw[List.getElem?_append_left (List.getElem?_eq_some_iff.1 hj).1];exact hj
section
variable {m:Mem} {b:Nat}
theorem Zul(s:Sc)(hb:m.reads b 0 s.cs):CX Tryz.prog 150 #[.pointer (some ⟨b,0,none⟩)] m [] (Ret (.bool (!ZbF s.n 2 256))):=by
 apply Zgy (c0b:=b) (c0o:=0)
 refine⟨_,hb 0 _ rfl,Zah (ZeC s.n 2 256 m) λm1 aB=>Zac aB rfl⟩
theorem Zum(s:Sc)(hb:m.reads b 0 s.cs):CX Tryz.prog 152 #[.pointer (some ⟨b,0,none⟩)] m [] (Ret (.bool (!ZbF s.states.length 1 24||decide (s.vars.length > 12)))):=by
 apply Zgz (c0b:=b) (c0o:=0)
 refine⟨!ZbF s.states.length 1 24||decide (s.vars.length > 12),⟨_,hb 2 _ rfl,Zab rfl (Zah (ZeC s.states.length 1 24 m) λm1 aB=>Zaa (λh=>Zaf ?_) (λh=>⟨_,(hb.mono aB) 1 _ rfl,Zab rfl (Zaf ?_)⟩))⟩,Zac (Mem.le_refl m) rfl⟩
 ·rw[h];rfl
 ·rw[h]
  show decide ((s.vars.length:Int) > 12)=(false||decide (s.vars.length > 12))
  rw[Bool.false_or,decide_eq_decide];omega
theorem ZwH(s:Sc)(hr:RepC m s):CX Tryz.prog 137 #[s.v] m [] (Ret (.int .i64 (ZtH s))):=by
 apply ZiS
 intro b m1 aB hb b1 hf
 have bM:=Mem.le_add hf ([.int .i64 300,.func (.func 150) #[] #[.pointer (some ⟨b,0,none⟩)],.int .i64 302,.func (.func 152) #[] #[.pointer (some ⟨b,0,none⟩)]])
 refine Zav (Zgl [((300,150,[.pointer (some ⟨b,0,none⟩)]),!ZbF s.n 2 256),((302,152,[.pointer (some ⟨b,0,none⟩)]),!ZbF s.states.length 1 24||decide (s.vars.length > 12))] _ 2 _ (by simp) (.inr ⟨b1,0,rfl,Zcf m1 b1 _⟩) λx hx m' hm'=>?_) λm2 aN=>Zac (mLt aB (mLt bM aN)) rfl
 have hb':=hb.mono (mLt bM hm')
 simp only[List.mem_cons,List.not_mem_nil,or_false]at hx
 rcases hx with rfl|rfl
 ·exact Zul s hb'
 ·exact Zum s hb'
theorem Zlb(v x:Va)(m:Mem)(b:Nat)(hb:m.reads b 0 v.cs):CX Tryz.prog 149 #[.agg x.cs.toArray,.pointer (some ⟨b,0,none⟩)] m [] (Ret (.bool (eqS x.s v.s))):=by
 apply ZdI (c0b:=b) (c0o:=0)
 intro b1 m1 aB _
 exact⟨_,(hb.mono aB) 0 _ rfl,Zab rfl (Zac aB rfl)⟩
theorem Znq(s:Sc)(i:Nat)(v:Va)(m:Mem)(b0 b1 b2:Nat)(hr:RepC m s)(hi:i<=s.vars.length)(hv:RepV v)(h0:m.reads b0 0 v.cs)(h1:m.reads b1 0 s.cs)(h2:m.reads b2 0 [.int .i64 i]):
  CX Tryz.prog 145 #[.pointer (some ⟨b0,0,none⟩),.pointer (some ⟨b1,0,none⟩),.pointer (some ⟨b2,0,none⟩)] m [] (Ret (.bool (!ZcG v.s||(!Zfz v||(s.vars.take i).any λx=>eqS x.s v.s)))):=by
 apply ZeA (c0b:=b0) (c0o:=0) (c1b:=b1) (c1o:=0) (c2b:=b2) (c2o:=0)
 have gB:=hr.vlen
 unfold few at gB
 refine⟨_,h0 0 _ rfl,Zah (ZhU v.s hv.s m) λm1 aB=>Zaa (λh=>Zac aB ?_) (λh=>⟨_,_,_,Zcz (h0.mono aB) 1 3,Zah (Zuj v m1) λm2 aN=>Zaa (λh'=>Zac (mLt aB aN) ?_) (λh'=>?_)⟩)⟩
 ·show Value.bool true=Value.bool _
  rw[h];rfl
 ·show Value.bool true=Value.bool _
  rw[h,h'];rfl
 ·have hm:=mLt aB aN
  have hc:=hr.vcap
  have key:=Zug (s.vars.take i) s.va s.vc 149 [.pointer (some ⟨b0,0,none⟩)] (λx=>eqS x.s v.s) m2 (by rw[List.length_take];omega) (ZpW (hr.vrow.mono hm) i) λx _ m' hm'=>Zlb v x m' b0 (h0.mono (mLt hm hm'))
  rw[List.length_take,Nat.min_eq_left hi]at key
  refine⟨_,(h1.mono hm) 1 _ rfl,_,(h2.mono hm) 0 _ rfl,Zab rfl (Zab rfl ⟨⟨Int.natCast_nonneg i,by show(i:Int)<=(s.vc:Int);omega⟩,Zah key λm3 aW=>Zac (mLt hm aW) ?_⟩)⟩
  show Value.bool _=Value.bool _
  rw[h,h'];rfl
theorem ZpX(s:Sc)(i:Nat)(v:Va)(m:Mem)(hr:RepC m s)(hi:s.vars[i]?=some v):CX Tryz.prog 136 #[s.v,.int .i64 i] m [] (Ret (.int .i64 (ZfA s i v))):=by
 apply ZfI
 intro b m1 aB hb b1 m2 aN cM
 have gB:=hr.vlen
 unfold few at gB
 have aP:=(List.getElem?_eq_some_iff.1 hi).1
 have bM:=mLt aB aN
 obtain⟨b2,o2,ha,hx⟩:=Zal Va.len (hr.vrow.mono bM) hi (by omega)
 refine⟨b2,o2,ha,⟨by omega,by omega⟩,_,_,_,_,hx,λb3=>Zab rfl λb4 hf m3 aW eY=>?_⟩
 have l8:=mLt (Mem.le_add hf _) aW
 have dN:=mLt bM l8
 refine Zav (Zgl [((301,145,[.pointer (some ⟨b3,0,none⟩),.pointer (some ⟨b,0,none⟩),.pointer (some ⟨b1,0,none⟩)]),!ZcG v.s||(!Zfz v||(s.vars.take i).any λx=>eqS x.s v.s))] _ 1 _ (by simp) (.inr ⟨b4,0,rfl,(Zcf m2 b4 _).mono aW⟩) λx hx m' hm'=>?_) λm4 bV=>Zac (mLt dN bV) rfl
 simp only[List.mem_cons,List.not_mem_nil,or_false]at hx
 subst hx
 have hl':=mLt l8 hm'
 exact Znq s i v m' b3 b b1 (hr.mono (mLt dN hm')) (by omega) (hr.vall v (List.mem_of_getElem? hi)) (eY.mono hm') (hb.mono (mLt aN hl')) (cM.mono hl')
theorem Zrs(v x:Sta)(m:Mem)(b:Nat)(hb:m.reads b 0 v.cs):CX Tryz.prog 155 #[.agg x.cs.toArray,.pointer (some ⟨b,0,none⟩)] m [] (Ret (.bool (eqS x.s v.s))):=by
 apply ZeW (c0b:=b) (c0o:=0)
 intro b1 m1 aB _
 exact⟨_,(hb.mono aB) 0 _ rfl,Zab rfl (Zac aB rfl)⟩
theorem Zun(s:Sc)(i:Nat)(v:Sta)(m:Mem)(b0 b1 b2:Nat)(hr:RepC m s)(hi:i<=s.states.length)(hv:RepS m v)(h0:m.reads b0 0 v.cs)(h1:m.reads b1 0 s.cs)(h2:m.reads b2 0 [.int .i64 i]):
  CX Tryz.prog 153 #[.pointer (some ⟨b0,0,none⟩),.pointer (some ⟨b1,0,none⟩),.pointer (some ⟨b2,0,none⟩)] m [] (Ret (.bool (!ZcG v.s||(decide (v.rules.length > 12)||(s.states.take i).any λx=>eqS x.s v.s)))):=by
 apply ZgB (c0b:=b0) (c0o:=0) (c1b:=b1) (c1o:=0) (c2b:=b2) (c2o:=0)
 have gB:=hr.len
 unfold few at gB
 refine⟨_,h0 0 _ rfl,Zah (ZhU v.s hv.s m) λm1 aB=>Zaa (λh=>Zac aB ?_) (λh=>⟨_,(h0.mono aB) 1 _ rfl,Zab rfl (Zaz (λh'=>Zac aB ?_) (λh'=>?_))⟩)⟩
 ·show Value.bool true=Value.bool _
  rw[h];rfl
 ·have h':(v.rules.length:Int) > 12:=h'
  show Value.bool true=Value.bool _
  rw[h,decide_eq_true (by omega)];rfl
 ·have h':¬(v.rules.length:Int) > 12:=h'
  have hc:=hr.scap
  have key:=Zuf (s.states.take i) s.sa s.sc 155 [.pointer (some ⟨b0,0,none⟩)] (λx=>eqS x.s v.s) m1 (by rw[List.length_take];omega) (ZpW (hr.row.mono aB) i) λx _ m' hm'=>Zrs v x m' b0 (h0.mono (mLt aB hm'))
  rw[List.length_take,Nat.min_eq_left hi]at key
  refine⟨_,(h1.mono aB) 2 _ rfl,_,(h2.mono aB) 0 _ rfl,Zab rfl (Zab rfl ⟨⟨Int.natCast_nonneg i,by show(i:Int)<=(s.sc:Int);omega⟩,Zah key λm3 aW=>Zac (mLt aB aW) ?_⟩)⟩
  show Value.bool _=Value.bool _
  rw[h,decide_eq_false (by omega)];rfl
theorem ZwI(s:Sc)(i:Nat)(v:Sta)(m:Mem)(hr:RepC m s)(hi:s.states[i]?=some v):CX Tryz.prog 138 #[s.v,.int .i64 i] m [] (Ret (.int .i64 (Zo5 s i v))):=by
 apply ZiT
 intro b m1 aB hb b1 m2 aN cM
 have gB:=hr.len
 unfold few at gB
 have aP:=(List.getElem?_eq_some_iff.1 hi).1
 have bM:=mLt aB aN
 obtain⟨b2,o2,ha,hx⟩:=Zal Sta.len (hr.row.mono bM) hi (by omega)
 refine⟨b2,o2,ha,⟨by omega,by omega⟩,_,_,hx,λb3=>Zab rfl λb4 hf m3 aW eY=>?_⟩
 have l8:=mLt (Mem.le_add hf _) aW
 have dN:=mLt bM l8
 refine Zav (Zgl [((303,153,[.pointer (some ⟨b3,0,none⟩),.pointer (some ⟨b,0,none⟩),.pointer (some ⟨b1,0,none⟩)]),!ZcG v.s||(decide (v.rules.length > 12)||(s.states.take i).any λx=>eqS x.s v.s))] _ 1 _ (by simp) (.inr ⟨b4,0,rfl,(Zcf m2 b4 _).mono aW⟩) λx hx m' hm'=>?_) λm4 bV=>Zac (mLt dN bV) rfl
 simp only[List.mem_cons,List.not_mem_nil,or_false]at hx
 subst hx
 have hl':=mLt l8 hm'
 have h0':=mLt dN hm'
 exact Zun s i v m' b3 b b1 (hr.mono h0') (by omega) ((hr.all v (List.mem_of_getElem? hi)).mono h0') (eY.mono hm') (hb.mono (mLt aN hl')) (cM.mono hl')
theorem ZwJ(r:Ru)(m:Mem)(b:Nat)(hr:RepR m r)(hb:m.reads b 0 r.cs):CX Tryz.prog 156 #[.pointer (some ⟨b,0,none⟩)] m [] (Ret (.bool (!Za7 r||decide (r.acts.length > 8)))):=by
 apply ZhB (c0b:=b) (c0o:=0)
 refine⟨!Za7 r||decide (r.acts.length > 8),⟨_,_,_,_,_,_,_,_,_,_,_,_,_,_,_,_,hb,Zah (Zuk r m hr) λm1 aB=>Zaa (λh=>Zaf ?_) (λh=>⟨_,(hb.mono aB) 13 _ rfl,Zab rfl (Zaf ?_)⟩)⟩,Zac (Mem.le_refl m) rfl⟩
 ·rw[h];rfl
 ·rw[h]
  show decide ((r.acts.length:Int) > 8)=(false||decide (r.acts.length > 8))
  rw[Bool.false_or,decide_eq_decide];omega
theorem ZwK(r:Ru)(total:Int)(m:Mem)(b b1:Nat)(hr:RepR m r)(hb:m.reads b 0 r.cs)(cM:m.reads b1 0 [.int .i64 total]):CX Tryz.prog 158 #[.pointer (some ⟨b,0,none⟩),.pointer (some ⟨b1,0,none⟩)] m [] (Ret (.bool (r.k == 1&&(!(r.t.check == 0)||decide (total > 600))))):=by
 apply ZhC (c0b:=b) (c0o:=0) (c1b:=b1) (c1o:=0)
 refine⟨r.k == 1&&(!(r.t.check == 0)||decide (total > 600)),⟨_,hb 0 _ rfl,Zab rfl (Zaa (λh=>⟨_,_,_,_,_,_,_,_,_,_,Zcz hb 1 10,Zav (Zwu r.bg r.en r.t m hr.t) λm1 aB=>Zaa (λh2=>Zaf ?_) (λh2=>⟨_,(cM.mono aB) 0 _ rfl,Zab rfl (Zaf ?_)⟩)⟩) (λh=>Zaf ?_))⟩,Zac (Mem.le_refl m) rfl⟩
 ·rw[show(r.k == 1)=true from h,h2];rfl
 ·rw[show(r.k == 1)=true from h,h2];rfl
 ·rw[show(r.k == 1)=false from h];rfl
theorem ZwL(s:Sc)(r:Ru)(m:Mem)(b b1:Nat)(hs:RepC m s)(hr:RepR m r)(hb:m.reads b 0 s.cs)(cM:m.reads b1 0 r.cs):CX Tryz.prog 160 #[.pointer (some ⟨b,0,none⟩),.pointer (some ⟨b1,0,none⟩)] m [] (Ret (.bool (if r.go.size=0 then !ZbF r.code 0 255 else !Zkr s r.go||!(r.code == 0)))):=by
 apply ZhD (c0b:=b) (c0o:=0) (c1b:=b1) (c1o:=0)
 refine⟨_,_,_,hb,_,cM 14 _ rfl,Zai (ZyF s r.go m hs) Zui ?_⟩
 rintro n ok m1 aB ⟨n',hv⟩
 have cC:ok=Zkr s r.go:=by
  have hv:Value.tuple (Array.mk [Value.int .i64 n,Value.bool ok])=Value.tuple #[.int .i64 n',.bool (Zkr s r.go)]:=hv
  simp only[Value.tuple.injEq,Array.mk.injEq,List.cons.injEq,Value.bool.injEq,and_true]at hv
  exact hv.2
 subst cC
 refine⟨_,(cM.mono aB) 14 _ rfl,Zab rfl (Zaa (λh=>⟨_,(cM.mono aB) 15 _ rfl,Zah (ZeC r.code 0 255 m1) λm2 aN=>Zac (mLt aB aN) ?_⟩) (λh=>⟨!Zkr s r.go||!(r.code == 0),Zaa (λh2=>Zaf ?_) (λh2=>⟨_,(cM.mono aB) 15 _ rfl,Zab rfl (Zaf ?_)⟩),Zac aB ?_⟩))⟩
 ·have h:(r.go.size == 0)=true:=by rw[<-Zck];exact h
  show Value.bool _=Value.bool _
  rw[if_pos (by simpa using h)]
 ·rw[h2];rfl
 ·rw[h2];rfl
 ·have h:(r.go.size == 0)=false:=by rw[<-Zck];exact h
  show Value.bool _=Value.bool _
  rw[if_neg (by simpa using h)]
theorem ZyG(s:Sc)(r:Ru)(total:Int)(m:Mem)(hs:RepC m s)(hr:RepR m r):CX Tryz.prog 139 #[s.v,.agg r.cs.toArray,.int .i64 total] m [] (Ret (.int .i64 (Zqv s r total))):=by
 apply ZkV
 intro b m1 aB hb b1 m2 aN cM b2 m3 aW eU b3 hf
 have dN:=mLt aB (mLt aN aW)
 refine Zav (Zgl [((304,156,[.pointer (some ⟨b1,0,none⟩)]),!Za7 r||decide (r.acts.length > 8)),((305,158,[.pointer (some ⟨b1,0,none⟩),.pointer (some ⟨b2,0,none⟩)]),r.k == 1&&(!(r.t.check == 0)||decide (total > 600))),
  ((306,160,[.pointer (some ⟨b,0,none⟩),.pointer (some ⟨b1,0,none⟩)]),if r.go.size=0 then !ZbF r.code 0 255 else !Zkr s r.go||!(r.code == 0))] _ 3 _ (by simp) (.inr ⟨b3,0,rfl,Zcf m3 b3 _⟩) λx hx m' hm'=>?_) λm4 bV=>Zac (mLt dN (mLt (Mem.le_add hf _) bV)) rfl
 have hl:=mLt (Mem.le_add hf _) hm'
 have h0':=mLt dN hl
 simp only[List.mem_cons,List.not_mem_nil,or_false]at hx
 rcases hx with rfl|rfl|rfl
 ·exact ZwJ r m' b1 (hr.mono h0') (cM.mono (mLt aW hl))
 ·exact ZwK r total m' b1 b2 (hr.mono h0') (cM.mono (mLt aW hl)) (eU.mono hl)
 ·exact ZwL s r m' b b1 (hs.mono h0') (hr.mono h0') (hb.mono (mLt aN (mLt aW hl))) (cM.mono (mLt aW hl))
end
def Zvy(a:Ac):Bool:=!ZbF a.k 1 3||(a.k == 1&&!(a.s.size == 0))||(a.k == 3&&decide (a.parts.length > 0))||(a.k == 3&&!a.e.clean)||(!(a.k == 3)&&!Zqu a.e)||decide (a.parts.length > 16)
theorem Zrt(a:Ac)(m:Mem)(b b1:Nat)(hr:RepA m a)(hb:m.reads b 0 a.cs)(cM:m.reads b1 0 [.bool (a.k == 3)]):CX Tryz.prog 162 #[.pointer (some ⟨b,0,none⟩),.pointer (some ⟨b1,0,none⟩)] m [] (Ret (.bool (Zvy a))):=by
 apply ZfK (c0b:=b) (c0o:=0) (c1b:=b1) (c1o:=0)
 have hw:IntKind.i64.wrap a.k=a.k:=Zan (by have:=hr.k;omega) (by have:=hr.k;omega)
 have num:∀{M:Mem} {Q:Bool->Prop},m.le M->Q (a.k == 3)->∃v:Value,M.c b1 0=some v/\∃x:Bool,v=.bool x/\Q x:=λhM h=>⟨_,(cM.mono hM) 0 _ rfl,_,rfl,h⟩
 have big:∀{M:Mem},m.le M->Zvy a=decide (a.parts.length > 16)->∃v:Value,M.c b (0+2)=some v/\chk (Zbh v) ([Value.bool (decide ((slN v:Int) > 16))]=[Value.bool (Zvy a)]):=λhM h=>⟨_,(hb.mono hM) 2 _ rfl,Zab rfl (Zaf (by
  rw[h]
  show decide ((a.parts.length:Int) > 16)=decide (a.parts.length > 16)
  rw[decide_eq_decide];omega))⟩
 refine⟨Zvy a,?_,Zac (Mem.le_refl m) rfl⟩
 refine⟨_,hb 0 _ rfl,Zab rfl ?_⟩
 show ∃R:RT,True/\CX Tryz.prog 151 #[.int .i64 (IntKind.i64.wrap a.k),.int .i64 1,.int .i64 3] m [] R/\_
 rw[hw]
 refine Zah (ZeC a.k 1 3 m) λm1 aB=>Zaa (λh=>Zaf ?_) (λi5=>⟨_,(hb.mono aB) 0 _ rfl,Zab rfl ?_⟩)
 ·unfold Zvy;rw[h];rfl
 cases hn:(a.k == 3)with
 | true=>
  have hk:a.k=3:=by simpa using hn
  refine ZcI (by show(a.k == 1)=false;rw[hk];rfl) (num aB (ZgR hn ⟨_,(hb.mono aB) 2 _ rfl,Zab rfl (Zaz (λh=>Zaf ?_) (λh=>num aB (ZgR hn ⟨_,_,_,_,_,Zcz (hb.mono aB) 3 5,Zah (ZpR a.e m1 (RepE.mono aB _ hr.e)) λm2 aN=>Zaa (λh2=>Zaf ?_) (λh2=>num (mLt aB aN) (ZcI (by rw[hn];rfl) (big (mLt aB aN) ?_)))⟩)))⟩))
  ·have h:(a.parts.length:Int) > 0:=h
   unfold Zvy;rw[hn,decide_eq_true (p:=a.parts.length > 0) (by omega),i5];simp
  ·have h:¬(a.parts.length:Int) > 0:=h
   unfold Zvy;rw[hn,h2];simp
  ·have h:¬(a.parts.length:Int) > 0:=h
   unfold Zvy;rw[hn,h2,i5,decide_eq_false (p:=a.parts.length > 0) (by omega),hk];simp
 | false=>
  refine Zaa (λh1=>⟨_,(hb.mono aB) 1 _ rfl,Zab rfl (Zaa (λh=>Zaf ?_) (λh=>num aB (ZcI hn (num aB (ZcI hn (num aB (ZgR (by rw[hn];rfl) ⟨_,_,_,_,_,Zcz (hb.mono aB) 3 5,Zah (Zvx a.e m1 (RepE.mono aB _ hr.e)) λm2 aN=>Zaa (λh2=>Zaf ?_) (λh2=>big (mLt aB aN) ?_)⟩)))))))⟩)
   (λh1=>num aB (ZcI hn (num aB (ZcI hn (num aB (ZgR (by rw[hn];rfl) ⟨_,_,_,_,_,Zcz (hb.mono aB) 3 5,Zah (Zvx a.e m1 (RepE.mono aB _ hr.e)) λm2 aN=>Zaa (λh2=>Zaf ?_) (λh2=>big (mLt aB aN) ?_)⟩))))))
  ·have h1:(a.k == 1)=true:=h1
   have h:(!(a.s.size == 0))=true:=by rw[<-Zck];exact h
   unfold Zvy;rw[h1,h];simp
  ·unfold Zvy;rw[hn,h2];simp
  ·have h:(!(a.s.size == 0))=false:=by rw[<-Zck];exact h
   unfold Zvy;rw[hn,h2,h,i5];simp
  ·unfold Zvy;rw[hn,h2];simp
  ·have h1:(a.k == 1)=false:=h1
   unfold Zvy;rw[hn,h2,h1,i5];simp
def ZyH(s:Sc)(a:Ac):Bool:=(!(a.k == 1)&&(!(Zdj s a.s).2||!((Zdj s a.s).1 == (a.k == 3))))||(a.k == 3&&!Zdz s a.e)
theorem Zru(s:Sc)(a:Ac)(m:Mem)(b b1 b2:Nat)(hs:RepC m s)(hr:RepA m a)(hb:m.reads b 0 s.cs)(cM:m.reads b1 0 a.cs)(eU:m.reads b2 0 [.bool (a.k == 3)]):
  CX Tryz.prog 165 #[.pointer (some ⟨b,0,none⟩),.pointer (some ⟨b1,0,none⟩),.pointer (some ⟨b2,0,none⟩)] m [] (Ret (.bool (ZyH s a))):=by
 apply ZfL (c0b:=b) (c0o:=0) (c1b:=b1) (c1o:=0) (c2b:=b2) (c2o:=0)
 refine⟨_,_,_,hb,_,cM 1 _ rfl,Zai (ZsC s a.s m hs) (λv _ _ e=>by rw[show v=_ from e];rfl) ?_⟩
 intro x y m1 aB hv
 have hv:Value.tuple (Array.mk [Value.bool x,Value.bool y])=Value.tuple #[.bool (Zdj s a.s).1,.bool (Zdj s a.s).2]:=hv
 simp only[Value.tuple.injEq,Array.mk.injEq,List.cons.injEq,Value.bool.injEq,and_true]at hv
 obtain⟨rfl,rfl⟩:=hv
 have num:∀{M:Mem} {Q:Bool->Prop},m.le M->Q (a.k == 3)->∃v:Value,M.c b2 0=some v/\∃x:Bool,v=.bool x/\Q x:=λhM h=>⟨_,(eU.mono hM) 0 _ rfl,_,rfl,h⟩
 have three:ZyH s a=(a.k == 3&&!Zdz s a.e)->∃v:Value,m1.c b2 0=some v/\∃x:Bool,v=.bool x/\br x (∃v v4 v5:Value,m1.reads b 0 [v,v4,v5]/\∃v6 v7 v8 v9 v10:Value,m1.reads b1 (0+3) [v6,v7,v8,v9,v10]/\∃R:RT,True/\CX Tryz.prog 167 #[.agg #[v,v4,v5],.agg #[v6,v7,v8,v9,v10]] m1 [] R/\Za1 .bool R/\∀(x:Bool)(m':Mem),m1.le m'->R (.bool x) m' []->[Value.bool !x]=[Value.bool (ZyH s a)]) ([Value.bool false]=[Value.bool (ZyH s a)]):=λhe=>num aB (Zaa (λh3=>⟨_,_,_,hb.mono aB,_,_,_,_,_,Zcz (cM.mono aB) 3 5,Zah (Ziv s a.e m1 (hs.mono aB) (RepE.mono aB _ hr.e)) λm2 aN=>Zaf (by rw[he,h3];rfl)⟩) (λh3=>Zaf (by rw[he,h3];rfl)))
 refine⟨ZyH s a,⟨_,(cM.mono aB) 0 _ rfl,Zab rfl (Zaa (λh1=>Zaa (λh2=>Zaf ?_) (λh2=>num aB (Zaa (λh3=>Zaf ?_) (λh3=>three ?_)))) (λh1=>three ?_))⟩,Zac aB rfl⟩
 ·have h1:(!(a.k == 1))=true:=h1
  unfold ZyH;rw[h1,h2];rfl
 ·have h1:(!(a.k == 1))=true:=h1
  unfold ZyH;rw[h1,h3];simp
 ·have h1:(!(a.k == 1))=true:=h1
  unfold ZyH;rw[h1,h2,h3];rfl
 ·have h1:(!(a.k == 1))=false:=h1
  unfold ZyH;rw[h1];rfl
def ZAZ(r:Ru)(a:Ac):Bool:=a.k == 3&&decide (a.e.most > Zcr r)
theorem Zrv(r:Ru)(a:Ac)(m:Mem)(b b1 b2:Nat)(hr:RepR m r)(ha:RepA m a)(hb:m.reads b 0 [.bool (a.k == 3)])(cM:m.reads b1 0 a.cs)(eU:m.reads b2 0 r.cs):
  CX Tryz.prog 168 #[.pointer (some ⟨b,0,none⟩),.pointer (some ⟨b1,0,none⟩),.pointer (some ⟨b2,0,none⟩)] m [] (Ret (.bool (ZAZ r a))):=by
 apply ZfM (c0b:=b) (c0o:=0) (c1b:=b1) (c1o:=0) (c2b:=b2) (c2o:=0)
 refine⟨λi _ _=>match i with
  | 4=>Ret (.int .i64 a.e.most)
  | _=>Ret (.int .i64 (Zcr r)),_,hb 0 _ rfl,_,rfl,Zaa (λh=>?_) (λh M hM _ _=>Zac hM ?_)⟩
 ·refine⟨_,_,_,_,_,Zcz cM 3 5,_,rfl,ZsB a.e m ha.e,λv _ _ e=>by rw[show v=_ from e];rfl,λn m1 aB hn=>?_⟩
  obtain rfl:n=a.e.most:=by cases hn;rfl
  refine⟨_,_,_,_,_,_,_,_,_,_,_,_,_,_,_,_,eU,_,rfl,Zgk r m1 (hr.t.mono aB),λv _ _ e=>by rw[show v=_ from e];rfl,λn1 m2 aN hn M hM _ _=>Zac hM ?_⟩
  obtain rfl:n1=Zcr r:=by cases hn;rfl
  show Value.bool _=Value.bool (ZAZ r a)
  unfold ZAZ;rw[h];rfl
 ·show Value.bool _=Value.bool (ZAZ r a)
  unfold ZAZ;rw[h];rfl
theorem Zuo(s:Sc)(r:Ru)(a:Ac)(m:Mem)(hs:RepC m s)(hr:RepR m r)(ha:RepA m a):CX Tryz.prog 140 #[s.v,.agg r.cs.toArray,.agg a.cs.toArray] m [] (Ret (.int .i64 (ZdT s r a))):=by
 apply ZhE
 intro b m1 aB hb b1 m2 aN cM b2 m3 aW eU b3 b4 hf m4 bV eY
 have dN:=mLt aB (mLt aN aW)
 have l8:=mLt (Mem.le_add hf _) bV
 refine Zav (Zgl [((307,162,[.pointer (some ⟨b2,0,none⟩),.pointer (some ⟨b3,0,none⟩)]),Zvy a),((308,165,[.pointer (some ⟨b,0,none⟩),.pointer (some ⟨b2,0,none⟩),.pointer (some ⟨b3,0,none⟩)]),ZyH s a),
  ((309,168,[.pointer (some ⟨b3,0,none⟩),.pointer (some ⟨b2,0,none⟩),.pointer (some ⟨b1,0,none⟩)]),ZAZ r a)] _ 3 _ (by simp) (.inr ⟨b4,0,rfl,(Zcf m3 b4 _).mono bV⟩) λx hx m' hm'=>?_) λm5 dD=>Zac (mLt dN (mLt l8 dD)) rfl
 have hl:=mLt l8 hm'
 have h0':=mLt dN hl
 simp only[List.mem_cons,List.not_mem_nil,or_false]at hx
 rcases hx with rfl|rfl|rfl
 ·exact Zrt a m' b2 b3 (ha.mono h0') (eU.mono hl) (eY.mono hm')
 ·exact Zru s a m' b b2 b3 (hs.mono h0') (ha.mono h0') (hb.mono (mLt aN (mLt aW hl))) (eU.mono hl) (eY.mono hm')
 ·exact Zrv r a m' b3 b2 b1 (hr.mono h0') (ha.mono h0') (eY.mono hm') (eU.mono hl) (cM.mono (mLt aW hl))
def ZsD(l:List Pt)(i:Nat)(p:Pt):Bool:=!ZbG p||(decide (i > 0)&&(p.k == 1&&(match l[i - 1]? with
 | some q=>q.k == 1
 | none=>false)))
theorem ZwM(l:List Pt)(a:Option Addr)(c:Nat)(i:Nat)(p:Pt)(m:Mem)(b b1 b2:Nat)(hl:l.length<=few)(aM:rowRd m a (l.map Pt.cs).flatten)(hi:i<=l.length)(hp:RepP m p)(hb:m.reads b 0 p.cs)(cM:m.reads b1 0 [.int .i64 i])(eU:m.reads b2 0 [.slice a l.length c]):
  CX Tryz.prog 171 #[.pointer (some ⟨b,0,none⟩),.pointer (some ⟨b1,0,none⟩),.pointer (some ⟨b2,0,none⟩)] m [] (Ret (.bool (ZsD l i p))):=by
 apply ZhF (c0b:=b) (c0o:=0) (c1b:=b1) (c1o:=0) (c2b:=b2) (c2o:=0)
 unfold few at hl
 refine⟨ZsD l i p,⟨_,_,_,_,_,_,_,_,hb,Zah (Znp p m hp) λm1 aB=>Zaa (λh=>Zaf ?_) (λh=>⟨_,(cM.mono aB) 0 _ rfl,Zab rfl (Zaz (λh2=>⟨_,(hb.mono aB) 0 _ rfl,Zab rfl (Zaa (λh3=>?_) (λh3=>Zaf ?_))⟩) (λh2=>Zaf ?_))⟩)⟩,Zac (Mem.le_refl m) rfl⟩
 ·unfold ZsD;rw[h];rfl
 ·have h2:(i:Int) > 0:=h2
  have h3:(p.k == 1)=true:=h3
  have aP:i - 1 < l.length:=by omega
  obtain⟨q,hq⟩:=Zdw aP
  have hw:IntKind.i64.wrap ((i:Int) - 1)=((i - 1:Nat):Int):=by rw[Zan (by omega) (by omega)];omega
  obtain⟨b3,o3,ha,hx⟩:=Zal Pt.len (aM.mono aB) hq (by omega)
  refine⟨_,(eU.mono aB) 0 _ rfl,_,(cM.mono aB) 0 _ rfl,Zab rfl (Zab rfl ⟨b3,o3,ha,?_,.int .u8 q.k,?_,Zab rfl (Zaf ?_)⟩)⟩
  ·show Zag (IntKind.i64.wrap ((i:Int) - 1)) l.length
   rw[hw];exact⟨by omega,by omega⟩
  ·show m1.c b3 (o3+(IntKind.i64.wrap ((i:Int) - 1)).toNat*8+0)=_
   rw[hw,Int.toNat_natCast]
   exact hx 0 _ rfl
  ·show(q.k == 1)=_
   unfold ZsD;rw[h,decide_eq_true (p:=i > 0) (by omega),h3,hq];rfl
 ·have h3:(p.k == 1)=false:=h3
  unfold ZsD;rw[h,h3];simp
 ·have h2:¬(i:Int) > 0:=h2
  unfold ZsD;rw[h,decide_eq_false (p:=i > 0) (by omega)];rfl
def Zqx(s:Sc)(p:Pt):Bool:=(p.k == 2&&!(Zdj s p.s).2)||(p.k == 4&&!Zdz s p.e)
theorem ZwN(s:Sc)(p:Pt)(m:Mem)(b b1:Nat)(hs:RepC m s)(hp:RepP m p)(hb:m.reads b 0 s.cs)(cM:m.reads b1 0 p.cs):
  CX Tryz.prog 173 #[.pointer (some ⟨b,0,none⟩),.pointer (some ⟨b1,0,none⟩)] m [] (Ret (.bool (Zqx s p))):=by
 apply ZhG (c0b:=b) (c0o:=0) (c1b:=b1) (c1o:=0)
 refine⟨_,_,_,hb,_,cM 1 _ rfl,Zai (ZsC s p.s m hs) (λv _ _ e=>by rw[show v=_ from e];rfl) ?_⟩
 intro x y m1 aB hv
 have hv:Value.tuple (Array.mk [Value.bool x,Value.bool y])=Value.tuple #[.bool (Zdj s p.s).1,.bool (Zdj s p.s).2]:=hv
 simp only[Value.tuple.injEq,Array.mk.injEq,List.cons.injEq,Value.bool.injEq,and_true]at hv
 obtain⟨rfl,rfl⟩:=hv
 refine⟨Zqx s p,⟨_,(cM.mono aB) 0 _ rfl,Zab rfl (Zaa (λh1=>Zaa (λh2=>Zaf ?_) (λh2=>⟨_,(cM.mono aB) 0 _ rfl,Zab rfl (Zaa (λh3=>⟨_,_,_,hb.mono aB,_,_,_,_,_,Zcz (cM.mono aB) 3 5,Zah (Ziv s p.e m1 (hs.mono aB) (RepE.mono aB _ hp.e)) λm2 aN=>Zaf ?_⟩) (λh3=>Zaf ?_))⟩))
  (λh1=>⟨_,(cM.mono aB) 0 _ rfl,Zab rfl (Zaa (λh3=>⟨_,_,_,hb.mono aB,_,_,_,_,_,Zcz (cM.mono aB) 3 5,Zah (Ziv s p.e m1 (hs.mono aB) (RepE.mono aB _ hp.e)) λm2 aN=>Zaf ?_⟩) (λh3=>Zaf ?_))⟩))⟩,Zac aB rfl⟩
 ·have h1:(p.k == 2)=true:=h1
  unfold Zqx;rw[h1,h2];rfl
 ·have h1:(p.k == 2)=true:=h1
  have h3:(p.k == 4)=true:=h3
  unfold Zqx;rw[h1,h2,h3];rfl
 ·have h1:(p.k == 2)=true:=h1
  have h3:(p.k == 4)=false:=h3
  unfold Zqx;rw[h1,h2,h3];rfl
 ·have h1:(p.k == 2)=false:=h1
  have h3:(p.k == 4)=true:=h3
  unfold Zqx;rw[h1,h3];rfl
 ·have h1:(p.k == 2)=false:=h1
  have h3:(p.k == 4)=false:=h3
  unfold Zqx;rw[h1,h3];rfl
def ZnP(r:Ru)(p:Pt):Bool:=(p.k == 3&&decide (p.g > Zcr r))||(p.k == 4&&decide (p.e.most > Zcr r))
theorem ZwO(r:Ru)(p:Pt)(m:Mem)(b b1:Nat)(hr:RepR m r)(hp:RepP m p)(hb:m.reads b 0 p.cs)(cM:m.reads b1 0 r.cs):
  CX Tryz.prog 174 #[.pointer (some ⟨b,0,none⟩),.pointer (some ⟨b1,0,none⟩)] m [] (Ret (.bool (ZnP r p))):=by
 apply ZhH (c0b:=b) (c0o:=0) (c1b:=b1) (c1o:=0)
 refine⟨λi _ _=>match i with
  | 17=>Ret (.int .i64 p.e.most)
  | _=>Ret (.int .i64 (Zcr r)),_,hb 0 _ rfl,Zab rfl (Zaa (λh3=>?_) (λh3=>?_))⟩
 ·have h3:(p.k == 3)=true:=h3
  have hk:p.k=3:=by simpa using h3
  refine⟨_,hb 2 _ rfl,_,_,_,_,_,_,_,_,_,_,_,_,_,_,_,_,cM,_,rfl,Zgk r m hr.t,λv _ _ e=>by rw[show v=_ from e];rfl,λn m1 aB hn=>?_⟩
  obtain rfl:n=Zcr r:=by cases hn;rfl
  refine Zab rfl (Zaz (λh=>λM hM _ _ _=>Zac hM ?_) (λh=>⟨_,(hb.mono aB) 0 _ rfl,Zab rfl (ZcI (by show(p.k == 4)=false;rw[hk];rfl) λM hM _ _ _=>Zac hM ?_)⟩))
  ·have h:p.g > Zcr r:=h
   show Value.bool _=Value.bool (ZnP r p)
   unfold ZnP;rw[h3,decide_eq_true h];rfl
  ·have h:¬p.g > Zcr r:=h
   show Value.bool _=Value.bool (ZnP r p)
   unfold ZnP;rw[decide_eq_false h,hk];rfl
 ·have h3:(p.k == 3)=false:=h3
  refine⟨_,hb 0 _ rfl,Zab rfl (Zaa (λh4=>?_) (λh4 M hM _ _ _=>Zac hM ?_))⟩
  ·have h4:(p.k == 4)=true:=h4
   refine⟨_,_,_,_,_,Zcz hb 3 5,_,rfl,ZsB p.e m hp.e,λv _ _ e=>by rw[show v=_ from e];rfl,λn m1 aB hn=>?_⟩
   obtain rfl:n=p.e.most:=by cases hn;rfl
   refine⟨_,_,_,_,_,_,_,_,_,_,_,_,_,_,_,_,cM,_,rfl,Zgk r m1 (hr.t.mono aB),λv _ _ e=>by rw[show v=_ from e];rfl,λn1 m2 aN hn M hM _ _ _=>Zac hM ?_⟩
   obtain rfl:n1=Zcr r:=by cases hn;rfl
   show Value.bool _=Value.bool (ZnP r p)
   unfold ZnP;rw[h3,h4];rfl
  ·have h4:(p.k == 4)=false:=h4
   show Value.bool _=Value.bool (ZnP r p)
   unfold ZnP;rw[h3,h4];rfl
theorem Zsi(s:Sc)(r:Ru)(l:List Pt)(i:Nat)(p:Pt):ZnM s r l i p=Zcl [(307,ZsD l i p),(308,Zqx s p),(309,ZnP r p)]:=rfl
theorem ZyI(s:Sc)(r:Ru)(l:List Pt)(a:Option Addr)(c:Nat)(i:Nat)(p:Pt)(m:Mem)(hs:RepC m s)(hr:RepR m r)(hl:l.length<=few)(aM:rowRd m a (l.map Pt.cs).flatten)(cF:∀x∈l,RepP m x)(hi:l[i]?=some p):
  CX Tryz.prog 141 #[s.v,.agg r.cs.toArray,.slice a l.length c,.int .i64 i] m [] (Ret (.int .i64 (ZnM s r l i p))):=by
 apply ZkW
 intro b m1 aB hb b1 m2 aN cM b2 m3 aW eU b3 m4 bV eY
 have nT:=mLt aW bV
 have ji:=mLt aN nT
 have jm:=mLt aB ji
 have aP:=(List.getElem?_eq_some_iff.1 hi).1
 have hl':=hl
 unfold few at hl'
 obtain⟨b4,o4,ha,hx⟩:=Zal Pt.len (aM.mono jm) hi (by omega)
 refine⟨b4,o4,ha,⟨by omega,by omega⟩,_,_,_,_,_,_,_,_,hx,λb5=>Zab rfl λb6 hf m5 dD su=>?_⟩
 have ua:=mLt (Mem.le_add hf _) dD
 refine Zav (Zgl [((307,171,[.pointer (some ⟨b5,0,none⟩),.pointer (some ⟨b3,0,none⟩),.pointer (some ⟨b2,0,none⟩)]),ZsD l i p),((308,173,[.pointer (some ⟨b,0,none⟩),.pointer (some ⟨b5,0,none⟩)]),Zqx s p),
  ((309,174,[.pointer (some ⟨b5,0,none⟩),.pointer (some ⟨b1,0,none⟩)]),ZnP r p)] _ 3 _ (by simp) (.inr ⟨b6,0,rfl,(Zcf m4 b6 _).mono dD⟩) λx hx m' hm'=>?_) λm6 gM=>Zac (mLt jm (mLt ua gM)) rfl
 have hl:=mLt ua hm'
 have h0':=mLt jm hl
 have hp:=(cF p (List.mem_of_getElem? hi)).mono h0'
 simp only[List.mem_cons,List.not_mem_nil,or_false]at hx
 rcases hx with rfl|rfl|rfl
 ·exact ZwM l a c i p m' b5 b3 b2 (by unfold few;omega) (aM.mono h0') (by omega) hp (su.mono hm') (eY.mono hl) (eU.mono (mLt bV hl))
 ·exact ZwN s p m' b b5 (hs.mono h0') hp (hb.mono (mLt ji hl)) (su.mono hm')
 ·exact ZwO r p m' b5 b1 (hr.mono h0') hp (su.mono hm') (cM.mono (mLt nT hl))
end Go.Proofs.YtojlhhphofhaoaaGreatDoor