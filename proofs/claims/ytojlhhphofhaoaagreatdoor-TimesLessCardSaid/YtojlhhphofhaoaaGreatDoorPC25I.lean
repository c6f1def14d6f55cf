/- Part of the proof: functions of the program. No condition. -/
import Derived.Test.YtojlhhphofhaoaaGreatDoorPVA
import Derived.Test.YtojlhhphofhaoaaGreatDoorPC25D
import Derived.Test.YtojlhhphofhaoaaGreatDoorPVEB
set_option linter.unusedVariables false
set_option linter.unusedSimpArgs false
set_option linter.unusedSectionVars false
namespace Go.Proofs.YtojlhhphofhaoaaGreatDoor
open Go Go.Eng Go.Rx Go.Proofs Go.RowKit
set_option maxRecDepth 100000
theorem Zb6(m:Mem)(b:Nat)(cs:List Value):(m.add b cs).reads b 0 cs:=λj u hu=>by rw[Mem.add_same,Nat.zero_add];exact hu
abbrev Yn(v:Value):Nat->Prop:=λb=>(Tok.mk v 1).blk=some b
theorem ZAE{m m':Mem}{Y Y1:Nat->Prop}(h:(m.off Y).le m')(hn:∀b,Y1 b->Y b\/(m.free b/\m.k b=none)):(m.off Y).le (m'.off Y1):=by
 have no:∀b,Y1 b->(∀o,m.off Y b o=none)/\(m.off Y).k b=none:=λb hb=>by
  by_cases hY:Y b
  ·exact⟨Mem.off_free hY,Mem.off_kn hY⟩
  ·rcases hn b hb with h1|⟨h1,h2⟩
   ·exact absurd h1 hY
   ·exact⟨λo=>by rw[Mem.off_at hY];exact h1 o,by rw[Mem.off_k hY];exact h2⟩
 refine⟨λb o v hv=>?_,λb e he=>?_⟩
 ·by_cases hb:Y1 b
  ·rw[(no b hb).1 o]at hv;cases hv
  ·rw[Mem.off_at hb];exact h.c b o v hv
 ·by_cases hb:Y1 b
  ·rw[(no b hb).2]at he;cases he
  ·rw[Mem.off_k hb];exact h.k b e he
theorem Zxk{m m':Mem}(h:m.le m'){b:Nat}(hf:m'.free b/\m'.k b=none):m.free b/\m.k b=none:=by
 refine⟨λo=>?_,?_⟩
 ·cases e:m b o with
  | none=>rfl
  | some v=>have:=h.c b o v e;rw[hf.1 o]at this;cases this
 ·cases e:m.k b with
  | none=>rfl
  | some v=>have:=h.k b v e;rw[hf.2]at this;cases this
structure NmSt (m:Mem)(v0:Value)(m':Mem)(a:Option Addr)(c:Nat)(l:List ByteArray):Prop where
 row:rowRd m' a (Zf3 l)
 base:(m.off (Yn v0)).le (m'.off (Yn (.slice a l.length c)))
 new:∀b,Yn (.slice a l.length c) b->Yn v0 b\/(m.free b/\m.k b=none)
def NmR(v0:Value)(m:Mem)(l:List ByteArray):RTY:=λv m' css tvs=>∃a c,v=.slice a l.length c/\tvs=[.slice a l.length c]/\rowRd m' a (Zf3 l)/\∀b,Yn (.slice a l.length c) b->Yn v0 b\/(m.free b/\m.k b=none)
theorem Zyw{v0 m l}:∀(v:Value)(m':Mem) (css:List (List Value)) (tvs:List Value),NmR v0 m l v m' css tvs->Shape.fits .slice v=true:=λv _ _ _ ⟨_,_,e,_⟩=>by rw[e];rfl
theorem NmSt.step{m m' m'':Mem}{v0:Value}{a a':Option Addr}{c c':Nat}{l l':List ByteArray}(h:NmSt m v0 m' a c l)(bW:(m'.off (Yn (.slice a l.length c))).le m'')(hr:rowRd m'' a' (Zf3 l'))(hn:∀b,Yn (.slice a' l'.length c') b->Yn (.slice a l.length c) b\/(m'.free b/\m'.k b=none)):NmSt m v0 m'' a' c' l':=by
 refine⟨hr,mLt h.base (ZAE bW hn),λb hb=>?_⟩
 rcases hn b hb with h1|h1
 ·exact h.new b h1
 ·by_cases hY:Yn v0 b
  ·exact .inl hY
  ·have h2:=Zxk h.base (b:=b) ⟨λo=>by
    by_cases cR:Yn (.slice a l.length c) b
    ·exact Mem.off_free cR o
    ·rw[Mem.off_at cR];exact h1.1 o,by
    by_cases cR:Yn (.slice a l.length c) b
    ·exact Mem.off_kn cR
    ·rw[Mem.off_k cR];exact h1.2⟩
   refine .inr ⟨λo=>?_,?_⟩
   ·have:=h2.1 o;rwa [Mem.off_at hY]at this
   ·have:=h2.2;rwa [Mem.off_k hY]at this
theorem ZvT(l:List ByteArray):(Zf3 l).length=l.length:=by unfold Zf3;exact List.length_map _
theorem ZqY(t:E):∀(out:List ByteArray)(a:Option Addr)(c:Nat)(m:Mem),rowRd m a (Zf3 out)->RepE (m.off (Yn (.slice a out.length c))) t->(t.names out).length<=1000000->
  CXY Tryz.prog 201 #[.slice a out.length c,t.v] m (Yn (.slice a out.length c)) [] [⟨.slice a out.length c,1⟩] (NmR (.slice a out.length c) m (t.names out)):=by
 intro out a c m ho hr h1
 have gp:=Zts t out
 have qQ:RepE m t:=RepE.mono (Mem.off_le m _) t hr
 apply ZgX
 intro b m1 aB _ iU _
 refine Zab (λhk=>?_) (λhk=>?_)
 ·have sE:t.k=9:=by simpa using hk
  have hN:=ZpW t out
  rw[if_pos sE]at hN
  have hE:(out.any λy=>eqS t.s y)=out.any λy=>y.toList == t.s.toList:=by
   congr 1;funext w;unfold eqS;exact Bool.beq_comm
  refine Zae (Zig out a c t.s m1 (by omega) (ho.mono aB)) λm2 aM=>Zab (λh=>?_) (λh b2 hf=>?_)
  ·rw[hE]at h
   rw[hN,h,if_pos rfl]
   exact⟨a,c,rfl,rfl,ho.mono (mLt aB aM),λb hb=>.inl hb⟩
  ·rw[hE]at h
   rw[h,if_neg (by decide)]at hN
   have bW:m2.le (m2.add b2 [.string t.s]):=Mem.le_add hf _
   have bY:=mLt aB (mLt aM bW)
   rw[hN,zA1,List.length_singleton]at h1
   refine⟨.inl rfl,Zf3 out,[.string t.s],by rw[ZvT];omega,rfl,ho.mono bY,.inr ⟨b2,0,rfl,Zb6 m2 b2 _⟩,λu hu=>?_,by omega,by omega,λa' c' m3 aY aN hT=>?_⟩
   ·obtain rfl:u=.string t.s:=by simpa using hu
    rfl
   ·rw[hN]
    have e:(out++[t.s]).length=out.length+1:=by rw[zA1];rfl
    refine⟨a',c',by rw[e],by rw[e],by unfold Zf3 at aN ⊢;rw[List.map_append];exact aN,λb' hb'=>?_⟩
    rcases hT.2 with h|⟨bb,oo,ha',h⟩
    ·rw[h]at hb';simp[Yn,Tok.blk]at hb'
    ·subst ha'
     obtain rfl:bb=b':=by simpa[Yn,Tok.blk]using hb'
     rcases h with h|⟨_,h2,h3⟩
     ·left;rw[h];simp[Yn,Tok.blk]
     ·exact .inr (Zxk bY ⟨h2,h3⟩)
 ·have sE:¬t.k=9:=by simpa using hk
  have hN:=ZpW t out
  rw[if_neg sE]at hN
  rw[hN]at h1 ⊢
  have nv:=Zeb hr
  refine⟨λxs _ tks m' q=>∃(i:Nat)(a':Option Addr)(c':Nat),i<=t.subs.length/\xs=[.slice a' (ZbM (t.subs.take i) out).length c',.int .i64 i]/\tks=[.slice a' (ZbM (t.subs.take i) out).length c']/\NmSt m (.slice a out.length c) m' a' c' (ZbM (t.subs.take i) out)/\q=t.subs.length - i,
   ⟨_,0,a,c,by omega,by rw[List.take_zero];rfl,by rw[List.take_zero];rfl,by
    rw[List.take_zero]
    exact⟨ho.mono aB,ZAE (mLt (Mem.off_le m _) aB) λb hb=>.inl hb,λb hb=>.inl hb⟩,rfl⟩,?_⟩
  rintro a1 n1 c1 n a2 n2 c2 m2 q aM ⟨i,a',c',hi,hx,ht,hS,hq⟩
  simp only[List.cons.injEq,Value.slice.injEq,Value.int.injEq,and_true,true_and]at hx ht
  obtain⟨⟨ea,en,ec⟩,rfl⟩:=hx
  obtain⟨ea',en',ec'⟩:=ht
  subst a1 n1 c1 a2 n2 c2 q
  refine Zab (λaO=>?_) (λbO=>?_)
  ·have aW:i < t.subs.length:=by have:=zA6 aO;omega
   obtain⟨x,hx⟩:=Zde aW
   have cA:=zA2 hx
   have bV:=ZhE cA
   rcases nv.2 with h|⟨b1,o1,ha,fJ⟩
   ·rw[h]at aW;simp at aW
   obtain⟨dI,dU⟩:=(fJ.mono' hS.base).get hx
   have dI:=dI.mono (Mem.off_le m2 _)
   have hw:IntKind.i64.wrap ((i:Int)+1)=((i+1:Nat):Int):=by rw[Zan (by omega) (by omega)];rfl
   have fO:=Zsl hx out
   have pt:=Zvf (l:=t.subs) (i:=i+1) out
   refine⟨b1,o1,ha,⟨by omega,by omega⟩,_,_,_,_,_,dI,λb2=>Zaa rfl ?_⟩
   refine⟨_,_,ZqY x (ZbM (t.subs.take i) out) a' c' m2 hS.row dU (by rw[<-fO];omega),λt' ht' bb jN=>?_,λbb jN=>.inl ⟨_,by simp,jN⟩,Zyw,?_⟩
   ·obtain rfl:t'=_:=by simpa using ht'
    exact jN
   ·rintro a3 n3 c3 m3 aY _ a4 c4 d4 ⟨a5,c5,hv,eI,cO,ml⟩
    simp only[Value.slice.injEq]at hv
    obtain⟨e1,e2,e3⟩:=hv
    subst a3 n3 c3
    simp only[List.cons.injEq,Value.slice.injEq,and_true]at eI
    obtain⟨e1,e2,e3⟩:=eI
    subst a4 c4 d4
    rw[<-fO]at cO ml ⊢
    refine⟨rfl,rfl,t.subs.length - (i+1),by omega,i+1,a5,c5,by omega,by rw[hw],rfl,hS.step aY cO ml,rfl⟩
  ·have hi':i=t.subs.length:=by have:=of_decide_eq_false bO;omega
   subst hi'
   rw[List.take_length]at hS ⊢
   exact⟨a',c',rfl,rfl,hS.row,hS.new⟩
termination_by SizeOf.sizeOf t
decreasing_by exact bV
theorem ZAF{P:Program}{g:FuncId}{args:Array Value}{m:Mem}{esz:Nat}{R:RTY}(h:CXY P g args m (Yn (.slice none 0 0)) [] [⟨.slice none 0 0,esz⟩] R):CX P g args m [] (λv m' css=>∃tvs,R v m' css tvs):=by
 have hY:∀b,¬Yn (.slice none 0 0) b:=λb hb=>by simp[Yn,Tok.blk]at hb
 have nA:m.le (m.off (Yn (.slice none 0 0))):=⟨λb o v hv=>by rw[Mem.off_at (hY b)];exact hv,λb e he=>by rw[Mem.off_k (hY b)];exact he⟩
 refine⟨h.1,λw h1 h2 h3=>(h.2 w h1 (by simp) (by simp) (λt ht=>?_) (λi j t t' b hi hj hb=>?_) (λb hb=>absurd hb (hY b))).mono ?_⟩
 ·obtain rfl:t=_:=by simpa using ht
  exact⟨.inl rfl,λb hb=>by simp[Tok.blk]at hb⟩
 ·intro _
  have hi:=zA2 hi
  obtain rfl:t=_:=by simpa using hi
  simp[Tok.blk]at hb
 ·rintro e w' ⟨v,m',css,tvs,a1,a2,a3,a4,a5,a6,a7,a8,a9,a10,a11⟩
  exact⟨v,m',css,a1,mLt nA a2,a3,a4.mono λb hb=>hb.resolve_left (hY b),⟨a5.os,a5.tape,a5.output,a5.size,λk hk _=>a5.block k hk (λhm=>hm.elim (by simp) (hY k)),a5.wr⟩,a6,a7,tvs,a11⟩
def ZC8(l:List ByteArray):Value->Mem->List (List Value)->Prop:=λv m' _=>∃a c,v=.slice a l.length c/\rowRd m' a (Zf3 l)
theorem ZvU{l}:∀(v:Value)(m':Mem) (css:List (List Value)),ZC8 l v m' css->Shape.fits .slice v=true:=λv _ _ ⟨_,_,e,_⟩=>by rw[e];rfl
theorem Zyx(t:E)(m:Mem)(hr:RepE m t):CX Tryz.prog 187 #[t.v] m [] (ZC8 t.vars):=by
 apply Zn2
 intro b m1 aB _
 refine Zae (ZcW t m1 (RepE.mono' hr aB)) λm2 aM=>Zab (λh=>Zac (mLt aB aM) ?_) (λh=>?_)
 ·have hl:t.light=false:=by simpa using h
  have:t.vars=[]:=by unfold E.vars;rw[hl];rfl
  rw[this]
  exact⟨none,0,rfl,.inl rfl⟩
 ·have hl:t.light=true:=by simpa using h
  have hv:t.vars=t.names []:=by unfold E.vars;rw[hl];rfl
  have h1:(t.names []).length<=1000000:=by
   have h2:=Zgv t []
   have h3:=zA6 (show decide (t.nodes.length<=10000)=true from hl)
   simp only[List.length_nil]at h2
   omega
  rw[hv]
  have nA:m2.le (m2.off (Yn (.slice none 0 0))):=⟨λb o v hv=>by rw[Mem.off_at (λhb=>by simp[Yn,Tok.blk]at hb)];exact hv,λb e he=>by rw[Mem.off_k (λhb=>by simp[Yn,Tok.blk]at hb)];exact he⟩
  have key:=ZAF (ZqY t [] none 0 m2 (.inl rfl) (RepE.mono' hr (mLt aB (mLt aM nA))) h1)
  refine Zai key (λv m' css ⟨_,_,_,e,_⟩=>by rw[e];rfl) ?_
  rintro a n c m3 aY ⟨tvs,a',c',hv',_,aN,_⟩
  simp only[Value.slice.injEq]at hv'
  obtain⟨rfl,rfl,rfl⟩:=hv'
  exact ZaX (mLt aB (mLt aM aY)) ⟨_,_,rfl,aN⟩
theorem Zm2(l:List Sta)(a:Option Addr)(c:Nat)(g:Nat)(ca:List Value)(p:Sta->Bool)(m:Mem)(hl:l.length<=1000000000000000)(hr:rowRd m a (l.map Sta.cs).flatten)
  (hp:∀x∈l,∀m',m.le m'->CX Tryz.prog g (.agg x.cs.toArray::ca).toArray m' [] (Ret (.bool (p x)))):
  CX Tryz.prog 179 #[.slice a l.length c,.func (.func g) #[] ca.toArray] m [] (Ret (.int .i64 (if l.any p then(l.findIdx p:Nat)else(-1:Int)))):=by
 apply Zbg a l.length c g [] ca
 refine⟨λxs _ _ m'' q=>∃i:Nat,i<=l.length/\xs=[.int .i64 i]/\(∀x∈l.take i,p x=false)/\q=l.length - i,⟨l.length,0,by omega,rfl,by simp,by omega⟩,?_⟩
 rintro n m' q hm ⟨i,hi,hn,gk,hq⟩
 obtain rfl:n=i:=by simpa using hn
 refine Zab (λaO=>?_) (λbO=>?_)
 ·have aW:i < l.length:=by simpa using aO
  obtain⟨x,hx⟩:=Zde aW
  have cA:x∈l:=zA2 hx
  obtain⟨b1,o1,ha,eW⟩:=Zaj Sta.len (hr.mono hm) hx (by omega)
  refine⟨b1,o1,ha,⟨by omega,by omega⟩,_,_,eW,Zae (hp x cA m' hm) λm1 aB=>Zab (λfY=>?_) (λfY=>?_)⟩
  ·refine Zac (mLt hm aB) ?_
   have fC:l.any p=true:=List.any_eq_true.2 ⟨x,cA,fY⟩
   have gx:l.findIdx p=i:=by
    rw[List.findIdx_eq aW]
    refine⟨by rw[(zA0 hx).2];exact fY,λj hj=>?_⟩
    exact gk _ (List.mem_of_getElem? (i:=j) (by rw[List.getElem?_take_of_lt hj];exact zA3 (by omega)))
   simp[Ret,fC,gx]
  ·refine⟨l.length - (i+1),by omega,i+1,by omega,by rw[Zan (by omega) (by omega)];rfl,?_,rfl⟩
   intro y hy
   rw[List.take_add_one,hx]at hy
   rcases List.mem_append.1 hy with hy|hy
   ·exact gk y hy
   ·simp at hy;rw[hy];exact fY
 ·have hi':i=l.length:=by
   have:¬((i:Int) < (l.length:Int)):=by simpa using bO
   omega
  subst hi'
  refine Zac hm ?_
  have fC:l.any p=false:=by
   rw[List.any_eq_false]
   rw[List.take_length]at gk
   exact λx hx=>by simp[gk x hx]
  simp[Ret,fC]
theorem ZvV(l:List Sta)(a:Option Addr)(c:Nat)(g:Nat)(ca:List Value)(p:Sta->Bool)(m:Mem)(hl:l.length<=1000000000000000)(hr:rowRd m a (l.map Sta.cs).flatten)
  (hp:∀x∈l,∀m',m.le m'->CX Tryz.prog g (.agg x.cs.toArray::ca).toArray m' [] (Ret (.bool (p x)))):
  CX Tryz.prog 154 #[.slice a l.length c,.func (.func g) #[] ca.toArray] m [] (Ret (.bool (l.any p))):=by
 apply Za5 a l.length c g [] ca
 refine Zav (Zm2 l a c g ca p m hl hr hp) λm' hm=>Zac hm ?_
 cases h:l.any p <;> simp[Ret]
theorem Zm3(l:List Va)(a:Option Addr)(c:Nat)(g:Nat)(ca:List Value)(p:Va->Bool)(m:Mem)(hl:l.length<=1000000000000000)(hr:rowRd m a (l.map Va.cs).flatten)
  (hp:∀x∈l,∀m',m.le m'->CX Tryz.prog g (.agg x.cs.toArray::ca).toArray m' [] (Ret (.bool (p x)))):
  CX Tryz.prog 178 #[.slice a l.length c,.func (.func g) #[] ca.toArray] m [] (Ret (.int .i64 (if l.any p then(l.findIdx p:Nat)else(-1:Int)))):=by
 apply ZbB a l.length c g [] ca
 refine⟨λxs _ _ m'' q=>∃i:Nat,i<=l.length/\xs=[.int .i64 i]/\(∀x∈l.take i,p x=false)/\q=l.length - i,⟨l.length,0,by omega,rfl,by simp,by omega⟩,?_⟩
 rintro n m' q hm ⟨i,hi,hn,gk,hq⟩
 obtain rfl:n=i:=by simpa using hn
 refine Zab (λaO=>?_) (λbO=>?_)
 ·have aW:i < l.length:=by simpa using aO
  obtain⟨x,hx⟩:=Zde aW
  have cA:x∈l:=zA2 hx
  obtain⟨b1,o1,ha,eW⟩:=Zaj Va.len (hr.mono hm) hx (by omega)
  refine⟨b1,o1,ha,⟨by omega,by omega⟩,_,_,_,_,eW,Zae (hp x cA m' hm) λm1 aB=>Zab (λfY=>?_) (λfY=>?_)⟩
  ·refine Zac (mLt hm aB) ?_
   have fC:l.any p=true:=List.any_eq_true.2 ⟨x,cA,fY⟩
   have gx:l.findIdx p=i:=by
    rw[List.findIdx_eq aW]
    refine⟨by rw[(zA0 hx).2];exact fY,λj hj=>?_⟩
    exact gk _ (List.mem_of_getElem? (i:=j) (by rw[List.getElem?_take_of_lt hj];exact zA3 (by omega)))
   simp[Ret,fC,gx]
  ·refine⟨l.length - (i+1),by omega,i+1,by omega,by rw[Zan (by omega) (by omega)];rfl,?_,rfl⟩
   intro y hy
   rw[List.take_add_one,hx]at hy
   rcases List.mem_append.1 hy with hy|hy
   ·exact gk y hy
   ·simp at hy;rw[hy];exact fY
 ·have hi':i=l.length:=by
   have:¬((i:Int) < (l.length:Int)):=by simpa using bO
   omega
  subst hi'
  refine Zac hm ?_
  have fC:l.any p=false:=by
   rw[List.any_eq_false]
   rw[List.take_length]at gk
   exact λx hx=>by simp[gk x hx]
  simp[Ret,fC]
theorem ZvW(l:List Va)(a:Option Addr)(c:Nat)(g:Nat)(ca:List Value)(p:Va->Bool)(m:Mem)(hl:l.length<=1000000000000000)(hr:rowRd m a (l.map Va.cs).flatten)
  (hp:∀x∈l,∀m',m.le m'->CX Tryz.prog g (.agg x.cs.toArray::ca).toArray m' [] (Ret (.bool (p x)))):
  CX Tryz.prog 148 #[.slice a l.length c,.func (.func g) #[] ca.toArray] m [] (Ret (.bool (l.any p))):=by
 apply Zbk a l.length c g [] ca
 refine Zav (Zm3 l a c g ca p m hl hr hp) λm' hm=>Zac hm ?_
 cases h:l.any p <;> simp[Ret]
theorem ZeP(n a b:Int)(m:Mem):CX Tryz.prog 151 #[.int .i64 n,.int .i64 a,.int .i64 b] m [] (Ret (.bool (ZbN n a b))):=by
 apply ZhR
 exact⟨ZbN n a b,Zab (λh=>by unfold ZbN;rw[h];rfl) (λh=>by unfold ZbN;rw[h];rfl),Zac (Mem.le_refl m) rfl⟩
theorem Zyy(v:Va)(name:ByteArray)(b:Nat)(m:Mem)(hb:m.reads b 0 [.string name]):CX Tryz.prog 185 #[.agg v.cs.toArray,.pointer (some ⟨b,0,none⟩)] m [] (Ret (.bool (eqS v.s name))):=by
 apply ZhS (c0b:=b) (c0o:=0)
 intro b1 m1 aB _
 exact⟨_,aB.c _ _ _ (hb 0 _ rfl),Zaa rfl (Zac aB rfl)⟩
theorem Zyz{l:List Va}{p:Va->Bool}(h:l.any p=true):∃v,l[l.findIdx p]?=some v/\l.find? p=some v:=by
 induction l with
 | nil=>simp at h
 | cons x l ih=>
  cases hx:p x with
  | true=>exact⟨x,by simp[List.findIdx_cons,hx],by simp[hx]⟩
  | false=>
   obtain⟨v,h1,h2⟩:=ih (by simpa[hx]using h)
   exact⟨v,by simp[List.findIdx_cons,hx,h1],by simp[hx,h2]⟩
theorem ZvX{l:List Va}{p:Va->Bool}(h:l.any p=false):l.find? p=none:=by
 rw[List.find?_eq_none];rw[List.any_eq_false]at h;exact h
theorem Zt5(s:Sc)(name:ByteArray)(m:Mem)(hr:RepC m s):CX Tryz.prog 166 #[s.v,.string name] m [] (Ret (.tuple #[.bool (ZcU s name).1,.bool (ZcU s name).2])):=by
 apply Zlt
 intro b m1 aB _ b1 m2 aM cR
 have gE:=hr.vlen
 unfold few at gE
 have aN:=hr.vrow.mono (mLt aB aM)
 refine Zav (Zm3 s.vars s.va s.vc _ [.pointer (some ⟨b1,0,none⟩)] (λv=>eqS v.s name) m2 (by omega) aN λx _ m' hm'=>Zyy x name b1 m' (cR.mono hm')) λm3 aY=>?_
 have bW:=mLt aB (mLt aM aY)
 cases h:s.vars.any (λv=>eqS v.s name)with
 | true=>
  obtain⟨v,qR,kV⟩:=Zyz h
  have hk:ZcU s name=(v.b,true):=by unfold ZcU;rw[kV]
  obtain⟨b4,o4,ha,lJ⟩:=Zaj Va.len (aN.mono aY) qR (by omega)
  have aO:=(zA0 qR).1
  simp only[if_true]
  refine⟨v.b,true,ZrB (decide_eq_true (by omega)) ⟨b4,o4,ha,⟨by omega,by omega⟩,.bool v.b,?_,by trivial,Zaa rfl ?_⟩,Zac bW (by rw[hk])⟩
  ·have:=lJ 1 _ rfl
   rw[zA8];exact this
  ·rw[decide_eq_true (by omega:((List.findIdx (λv=>eqS v.s name) s.vars:Nat):Int) ≥ 0)]
 | false=>
  have hk:ZcU s name=(false,false):=by unfold ZcU;rw[ZvX h]
  refine⟨false,false,ZdQ rfl ⟨by trivial,rfl⟩,Zac bW (by rw[hk])⟩
theorem ZqZ(s:Sc)(name:ByteArray)(b:Nat)(m:Mem)(hr:RepC m s)(hb:m.reads b 0 s.cs):CX Tryz.prog 188 #[.string name,.pointer (some ⟨b,0,none⟩)] m [] (Ret (.bool (!(ZcU s name).1))):=by
 apply Ze8 (c0b:=b) (c0o:=0)
 refine⟨_,_,_,hb,?_⟩
 refine Zai (Zt5 s name m hr) (λv _ _ e=>by rw[show v=_ from e];rfl) ?_
 intro x y m1 aB hv
 have hv:Value.tuple (Array.mk [Value.bool x,Value.bool y])=Value.tuple #[.bool (ZcU s name).1,.bool (ZcU s name).2]:=hv
 simp only[Value.tuple.injEq,Array.mk.injEq,List.cons.injEq,Value.bool.injEq,and_true]at hv
 obtain⟨rfl,rfl⟩:=hv
 exact Zac aB rfl
theorem ZyA(e:E):e.vars.length<=1000000000000000:=by
 unfold E.vars
 split
 ·rename_i hl
  have h2:=Zgv e []
  have h3:=zA6 (show decide (e.nodes.length<=10000)=true from hl)
  simp only[List.length_nil]at h2
  omega
 ·simp
theorem ZiU(s:Sc)(e:E)(m:Mem)(hr:RepC m s)(he:RepE m e):CX Tryz.prog 167 #[s.v,e.v] m [] (Ret (.bool (ZcZ s e))):=by
 apply ZgN
 intro b m1 aB hb b1 m2 aM _
 refine Zai (Zyx e m2 (RepE.mono' he (mLt aB aM))) ZvU ?_
 rintro a n c m3 aY ⟨a',c',hv,aN⟩
 simp only[Value.slice.injEq]at hv
 obtain⟨rfl,rfl,rfl⟩:=hv
 refine Zae (ZgZ e.vars a c _ [.pointer (some ⟨b,0,none⟩)] (λn=>!(ZcU s n).1) m3 (ZyA e) aN λx _ m' hm'=>ZqZ s x b m' (hr.mono (mLt aB (mLt aM (mLt aY hm')))) (hb.mono (mLt aM (mLt aY hm')))) λm4 bP=>Zac (mLt aB (mLt aM (mLt aY bP))) rfl
theorem Zxl(e:E)(m:Mem)(he:RepE m e):CX Tryz.prog 164 #[e.v] m [] (Ret (.bool (ZmR e))):=by
 apply Zlu
 intro b m1 aB _
 exact Zae (ZlL e E0 m1 (RepE.mono' he aB) (Zzr m1)) λm2 aM=>Zac (mLt aB aM) rfl
theorem ZgC(r:Ru)(m:Mem)(hr:Rep m r.t):CX Tryz.prog 170 #[.agg r.cs.toArray] m [] (Ret (.int .i64 (Zcg r))):=by
 apply ZfU
 intro b m1 aB _
 refine Zab (λh=>?_) (λh=>Zab (λh2=>Zac aB ?_) (λh2=>Zac aB ?_))
 ·have hk:r.k=1:=by simpa using h
  exact Zav (ZqS r.t m1 (hr.mono aB)) λm2 aM=>Zac (mLt aB aM) (by unfold Zcg;rw[if_pos hk])
 ·have hk:¬r.k=1:=by simpa using h
  have jt:r.k=2:=by simpa using h2
  unfold Zcg;rw[if_neg hk,if_pos jt]
 ·have hk:¬r.k=1:=by simpa using h
  have jt:¬r.k=2:=by simpa using h2
  unfold Zcg;rw[if_neg hk,if_neg jt]
theorem Zq0(e:E)(m:Mem)(he:RepE m e):CX Tryz.prog 70 #[e.v] m [] (Ret (.int .i64 (nE e))):=by
 apply ZnK
 intro b m1 aB _
 refine Zae (ZcW e m1 (RepE.mono' he aB)) λm2 aM=>Zab (λh=>Zac (mLt aB aM) ?_) (λh=>?_)
 ·have hl:e.light=false:=by simpa using h
  unfold nE;rw[hl];rfl
 ·have hl:e.light=true:=by simpa using h
  exact Zav (Zyr e m2 (RepE.mono' he (mLt aB aM))) λm3 aY=>Zac (mLt aB (mLt aM aY)) (by unfold nE;rw[hl];rfl)
set_option maxHeartbeats 4000000 in
def CntW(b n p:Int):Prop:=0<=n/\n<=b/\(n=p\/(20000 < n/\20000 < p))
theorem CntW.out{b n p t:Int}(h:CntW b n p)(hn:n > 20000)(ht:p<=t):t > 20000:=by
 rcases h.2.2 with e|⟨_,e⟩ <;> omega
theorem CntW.eq{b n p:Int}(h:CntW b n p)(hn:¬n > 20000):n=p:=by
 rcases h.2.2 with e|⟨e,_⟩ <;> omega
theorem ZcH(s:Sc)(m:Mem)(hr:RepC m s):CX Tryz.prog 38 #[s.v] m [] (Ret (.bool s.light)):=by
 apply ZnL
 intro b m1 aB _
 have gE:=hr.vlen
 have fZ:=hr.len
 unfold few at gE fZ
 have dark:∀{M:Mem},m1.le M->s.weight > 20000->∀{n:Int},n > 20000->∃m'':Mem,m.le m''/\m''.le M/\Ret (.bool s.light) (.bool (decide (n<=20000))) m'' []:=λ{M} hM hw {n} hn=>Zac (mLt aB hM) (by
  show Value.bool _=Value.bool s.light
  unfold Sc.light
  rw[decide_eq_false (by omega),decide_eq_false (by omega)])
 generalize hV:((s.vars.length:Int)+s.states.length)=V0
 have sF:0<=V0/\V0<=200000:=by omega
 rw[Zan (by omega) (by omega)]
 have uj:s.weight=V0+ZaU (s.states.map wS):=by unfold Sc.weight;omega
 refine⟨λxs _ _ m' q=>∃(i:Nat)(n:Int),i<=s.states.length/\xs=[.int .i64 n,.int .i64 i]/\CntW 300000 n (V0+ZaU ((s.states.take i).map wS))/\q=s.states.length - i,⟨_,0,V0,by omega,rfl,⟨by omega,by omega,.inl (by simp[ZaU])⟩,rfl⟩,?_⟩
 rintro n k0 m2 q aM ⟨i,n',hi,hx,hC,hq⟩
 simp only[List.cons.injEq,Value.int.injEq,and_true,true_and]at hx
 obtain⟨rfl,rfl⟩:=hx
 subst hq
 have jc:IntKind.i64.wrap ((i:Int)+1)=((i+1:Nat):Int):=by rw[Zan (by omega) (by omega)];rfl
 simp only[jc,zA8]
 refine Zar (λaO=>?_) (λbO=>?_)
 ·have aW:i < s.states.length:=by omega
  obtain⟨x,hx⟩:=Zde aW
  have jC:=zA2 hx
  obtain⟨b1,o1,ha,eW⟩:=Zaj Sta.len ((hr.mono (mLt aB aM)).row) hx (by omega)
  have dI:=hr.all x jC
  have jD:=dI.len
  unfold few at jD
  refine⟨b1,o1,ha,⟨by omega,by omega⟩,_,_,eW,λb2=>Zaa rfl (Zaa rfl ?_)⟩
  generalize mO:V0+ZaU ((s.states.take i).map wS)=P0 at hC
  have uk:V0+ZaU ((s.states.take (i+1)).map wS)=P0+wS x:=by rw[Ze4 wS hx];omega
  have vX:P0+wS x<=s.weight:=by rw[<-uk,uj];have:=Zk0 wS ZCU s.states (i+1);omega
  refine⟨λxs _ _ m' q=>∃(k:Nat)(n:Int),k<=x.rules.length/\xs=[.int .i64 n,.int .i64 k]/\CntW 300000 n (P0+ZaU ((x.rules.take k).map wR))/\q=x.rules.length - k,⟨_,0,n,by omega,rfl,by simpa[ZaU]using hC,rfl⟩,?_⟩
  rintro n1 k1 m3 q aY ⟨k,n1',hk,gR,mo,hq⟩
  simp only[List.cons.injEq,Value.int.injEq,and_true,true_and]at gR
  obtain⟨rfl,rfl⟩:=gR
  subst hq
  have iP:IntKind.i64.wrap ((k:Int)+1)=((k+1:Nat):Int):=by rw[Zan (by omega) (by omega)];rfl
  simp only[iP,zA8]
  have dM:m.le m3:=mLt aB (mLt aM aY)
  refine Zar (λdQ=>?_) (λeH=>?_)
  ·have kW:k < x.rules.length:=by have:(k:Int) < (x.rules.length:Int):=dQ;omega
   obtain⟨r,gM⟩:=Zde kW
   have qQ:=zA2 gM
   have fA:=dI.all r qQ
   obtain⟨b3,o3,gl,jT⟩:=Zaj Ru.len ((dI.row).mono dM) gM (by omega)
   have oi:=fA.len
   unfold few at oi
   generalize xk:P0+ZaU ((x.rules.take k).map wR)=P1 at mo
   have pz:P0+ZaU ((x.rules.take (k+1)).map wR)=P1+wR r:=by rw[Ze4 wR gM];omega
   have vY:P1+wR r<=s.weight:=by
    rw[<-pz]
    have:=Zk0 wR Zz9 x.rules (k+1)
    unfold wS at vX
    omega
   refine Zaa rfl ⟨b3,o3,gl,⟨by omega,by show(k:Int) < (x.rules.length:Int);omega⟩,_,_,_,_,_,_,_,_,_,_,_,_,_,_,_,_,jT,λb4=>Zaa rfl ?_⟩
   have bV:=Zki r.t
   refine Zav (ZqR r.t m3 (fA.t.mono dM)) λm4 bP=>?_
   have j2:(if(20000:Int) < r.t.size then(20000:Int)else r.t.size)=Zhd r.t.size 20000:=rfl
   have fP:0<=Zhd r.t.size 20000/\Zhd r.t.size 20000<=20000:=by unfold Zhd;split <;> omega
   rw[j2]
   have xl:=mo.1
   have xm:=mo.2.1
   refine⟨λxs _ _ m'=>∃n:Int,xs=[.int .i64 n]/\CntW 330000 n (P1+1+Zhd r.t.size 20000+(if r.t.light then 0 else 20001)),?_,?_⟩
   ·refine Zae (Zed r.t m4 (fA.t.mono (mLt dM bP))) λm5 cL=>Zab (λh=>⟨by trivial,20001,rfl,?_⟩) (λh=>⟨by trivial,_,rfl,?_⟩)
    ·have hl:r.t.light=false:=by simpa using h
     rw[hl,if_neg (by decide)]
     have hp:0<=P1:=by rcases mo.2.2 with e|⟨_,e⟩ <;> omega
     exact⟨by omega,by omega,.inr ⟨by omega,by omega⟩⟩
    ·have hl:r.t.light=true:=by simpa using h
     rw[hl,if_pos rfl,Zan (n:=1+Zhd r.t.size 20000) (by omega) (by omega),Zan (by omega) (by omega)]
     refine⟨by omega,by omega,?_⟩
     rcases mo.2.2 with e|⟨e1,e2⟩
     ·left;omega
     ·right;omega
   ·rintro n2 m5 cL ⟨n2',mI,sG⟩
    obtain rfl:n2=n2':=by simpa using mI
    generalize vZ:P1+1+Zhd r.t.size 20000+(if r.t.light then 0 else 20001)=P2 at sG
    have iQ:wR r=(P2 - P1)+ZaU (r.acts.map wA):=by unfold wR;rw[<-vZ];omega
    have ko:m.le m5:=mLt dM (mLt bP cL)
    refine Zaa rfl ⟨λxs _ _ m' q=>∃(j:Nat)(n:Int),j<=r.acts.length/\xs=[.int .i64 n,.int .i64 j]/\CntW (330000+j*200000) n (P2+ZaU ((r.acts.take j).map wA))/\q=r.acts.length - j,⟨_,0,n2,by omega,rfl,by simpa[ZaU]using sG,rfl⟩,?_⟩
    rintro n3 k3 m6 q fR ⟨j,n3',hj,lJ,mq,hq⟩
    simp only[List.cons.injEq,Value.int.injEq,and_true,true_and]at lJ
    obtain⟨rfl,rfl⟩:=lJ
    subst hq
    have wa:IntKind.i64.wrap ((j:Int)+1)=((j+1:Nat):Int):=by rw[Zan (by omega) (by omega)];rfl
    simp only[wa,zA8]
    have iJ:=mLt ko fR
    have eY:=mq.1
    have ul:=mq.2.1
    refine Zar (λiV=>?_) (λjE=>?_)
    ·have pA:j < r.acts.length:=by have:(j:Int) < (r.acts.length:Int):=iV;omega
     obtain⟨a,j4⟩:=Zde pA
     have iK:=fA.all a (zA2 j4)
     obtain⟨b5,o5,jU,qS⟩:=Zaj Ac.len ((fA.row).mono iJ) j4 (by omega)
     have km:=iK.n
     unfold few at km
     have xn:=ZpX a.e
     generalize xo:P2+ZaU ((r.acts.take j).map wA)=P3 at mq
     have sH:P2+ZaU ((r.acts.take (j+1)).map wA)=P3+wA a:=by rw[Ze4 wA j4];omega
     have wb:P3+wA a<=s.weight:=by
      have:=Zk0 wA Zz8 r.acts (j+1)
      omega
     refine Zaa rfl ⟨b5,o5,jU,⟨by omega,by show(j:Int) < (r.acts.length:Int);omega⟩,_,_,_,_,_,_,_,_,qS,λb6=>Zaa rfl ?_⟩
     refine⟨λ_ _ _=>Ret (.int .i64 (nE a.e)),_,rfl,Zq0 a.e m6 (RepE.mono' iK.e iJ),λv _ _ e=>by rw[show v=_ from e];rfl,λn8 m7 i6 sI=>Zaa rfl λM jn gP=>Zaa rfl ?_⟩
     obtain rfl:n8=nE a.e:=by cases sI;rfl
     have sJ:slN (Value.slice a.pa a.parts.length a.pc)=a.parts.length:=rfl
     rw[sJ,Zan (n:=1+nE a.e) (by omega) (by omega),Zan (n:=1+nE a.e+(a.parts.length:Int)) (by omega) (by omega),Zan (by omega) (by omega)]
     have wc:wA a=(1+nE a.e+a.parts.length)+ZaU (a.parts.map λp=>nE p.e):=by unfold wA;omega
     have qT:=mLt iJ jn
     refine⟨λxs _ _ m' q=>∃(w:Nat)(n:Int),w<=a.parts.length/\xs=[.int .i64 n,.int .i64 w]/\CntW (330000+(j+1)*200000) n (P3+(1+nE a.e+a.parts.length)+ZaU ((a.parts.take w).map λp=>nE p.e))/\q=a.parts.length - w,⟨_,0,_,by omega,rfl,⟨by omega,by omega,?_⟩,rfl⟩,?_⟩
     ·simp only[List.take_zero,List.map_nil,ZaU]
      rcases mq.2.2 with e|⟨e1,e2⟩
      ·left;omega
      ·right;omega
     rintro n4 k4 m8 q ia ⟨w,n4',hw,nB,nC,hq⟩
     simp only[List.cons.injEq,Value.int.injEq,and_true,true_and]at nB
     obtain⟨rfl,rfl⟩:=nB
     subst hq
     have sK:IntKind.i64.wrap ((w:Int)+1)=((w+1:Nat):Int):=by rw[Zan (by omega) (by omega)];rfl
     simp only[sK,zA8]
     have qU:=mLt qT ia
     have wd:m1.le m8:=mLt aM (mLt aY (mLt bP (mLt cL (mLt fR (mLt jn ia)))))
     have mj:=nC.1
     have sL:=nC.2.1
     refine Zar (λlK=>?_) (λlL=>?_)
     ·have pB:w < a.parts.length:=by have:(w:Int) < (a.parts.length:Int):=lK;omega
      obtain⟨p,j9⟩:=Zde pB
      have jS:=iK.all p (zA2 j9)
      obtain⟨b7,o7,pC,we⟩:=Zaj Pt.len ((iK.row).mono qU) j9 (by omega)
      have xp:=ZpX p.e
      have dF:=Ze4 (λp:Pt=>nE p.e) j9
      have wg:=Zk0 (λp:Pt=>nE p.e) (λp=>(ZpX p.e).1) a.parts w
      refine Zaa rfl ⟨b7,o7,pC,⟨by omega,by show(w:Int) < (a.parts.length:Int);omega⟩,_,_,_,_,_,_,_,_,we,λb8=>Zaa rfl (Zar (λhd=>dark wd (nC.out hd (by omega)) hd) (λhd=>?_))⟩
      refine Zav (Zq0 p.e m8 (RepE.mono' jS.e qU)) λm9 mr=>⟨by trivial,a.parts.length - (w+1),by omega,w+1,_,by omega,rfl,?_,rfl⟩
      have he:=nC.eq hd
      rw[Zan (by omega) (by omega),dF]
      exact⟨by omega,by omega,.inl (by omega)⟩
     ·have hw':w=a.parts.length:=by have:¬(w:Int) < (a.parts.length:Int):=lL;omega
      subst hw'
      rw[List.take_length]at nC
      refine⟨by trivial,r.acts.length - (j+1),by omega,j+1,n4,by omega,rfl,?_,rfl⟩
      rw[sH,wc]
      exact⟨nC.1,by push_cast;omega,by rcases nC.2.2 with e|e;left;omega;right;omega⟩
    ·have hj':j=r.acts.length:=by have:¬(j:Int) < (r.acts.length:Int):=jE;omega
     subst hj'
     rw[List.take_length]at mq
     have ol:m1.le m6:=mLt aM (mLt aY (mLt bP (mLt cL fR)))
     refine Zar (λhd=>dark ol (mq.out hd (by omega)) hd) (λhd=>⟨by trivial,x.rules.length - (k+1),by omega,k+1,n3,by omega,rfl,?_,rfl⟩)
     rw[pz,iQ]
     exact⟨mq.1,by omega,.inl (by have:=mq.eq hd;omega)⟩
  ·have hk':k=x.rules.length:=by have:¬(k:Int) < (x.rules.length:Int):=eH;omega
   subst hk'
   rw[List.take_length]at mo
   refine⟨by trivial,s.states.length - (i+1),by omega,i+1,n1,by omega,rfl,?_,rfl⟩
   rw[uk];exact mo
 ·have hi':i=s.states.length:=by omega
  subst hi'
  rw[List.take_length,<-uj]at hC
  refine Zac (mLt aB aM) ?_
  show Value.bool _=Value.bool s.light
  unfold Sc.light
  congr 1
  rw[decide_eq_decide]
  rcases hC.2.2 with e|⟨e1,e2⟩ <;> omega
theorem ZyB(x:Sta)(name:ByteArray)(b:Nat)(m:Mem)(hb:m.reads b 0 [.string name]):CX Tryz.prog 183 #[.agg x.cs.toArray,.pointer (some ⟨b,0,none⟩)] m [] (Ret (.bool (eqS x.s name))):=by
 apply Zlp (c0b:=b) (c0o:=0)
 intro b1 m1 aB _
 exact⟨_,(hb.mono aB) 0 _ rfl,Zaa rfl (Zac aB rfl)⟩
def ZC9(s:Sc)(name:ByteArray):Value->Mem->List (List Value)->Prop:=λv _ _=>∃n:Int,v=.tuple #[.int .i64 n,.bool (Zkj s name)]
theorem ZvY{s name}:∀(v:Value)(m':Mem) (css:List (List Value)),ZC9 s name v m' css->Shape.fits (.tup [.int .i64,.bool]) v=true:=λv _ _ ⟨_,e⟩=>by rw[e];rfl
theorem ZAG(s:Sc)(name:ByteArray)(m:Mem)(hr:RepC m s):CX Tryz.prog 161 #[s.v,.string name] m [] (ZC9 s name):=by
 apply ZqB
 intro b m1 aB _ b1 m2 aM cR
 have fZ:=hr.len
 unfold few at fZ
 have bW:=mLt aB aM
 refine Zav (Zm2 s.states s.sa s.sc _ [.pointer (some ⟨b1,0,none⟩)] (λx=>eqS x.s name) m2 (by omega) (hr.row.mono bW) λx _ m' hm'=>ZyB x name b1 m' (cR.mono hm')) λm3 aY=>?_
 have dM:=mLt bW aY
 cases h:s.states.any (λx=>eqS x.s name)with
 | true=>
  refine⟨!s.light,ZdQ (decide_eq_false (by simp)) ?_,Zab (λhl=>Zac dM ⟨_,by unfold Zkj;rw[h];simp at hl;rw[hl];rfl⟩) (λhl=>Zac dM ⟨_,by unfold Zkj;rw[h];simp at hl;rw[hl];rfl⟩)⟩
  exact Zae (ZcH s m3 (hr.mono dM)) λm4 bP=>⟨by trivial,rfl⟩
 | false=>
  refine⟨true,ZrB rfl ⟨by trivial,rfl⟩,ZrB rfl (Zac dM ⟨_,by unfold Zkj;rw[h];rfl⟩)⟩
def ZEb(a:Int×Nat×List Value):List Value:=[.int .i64 a.1,.func (.func a.2.1) #[] a.2.2.toArray]
theorem ZyC(a:Int×Nat×List Value):(ZEb a).length=2:=rfl
theorem ZgD(l:List ((Int×Nat×List Value)×Bool))(a:Option Addr)(c:Nat)(m:Mem)(hl:l.length<=100000)(hr:rowRd m a (l.map λx=>ZEb x.1).flatten)
  (hp:∀x∈l,∀m',m.le m'->CX Tryz.prog x.1.2.1 x.1.2.2.toArray m' [] (Ret (.bool x.2))):
  CX Tryz.prog 144 #[.slice a l.length c] m [] (Ret (.int .i64 (Zcv (l.map λx=>(x.1.1,x.2))))):=by
 apply Zjf a l.length c
 refine⟨λxs _ _ m'' q=>∃i:Nat,i<=l.length/\xs=[.int .i64 0,.int .i64 i]/\Zcv (l.map λx=>(x.1.1,x.2))=Zcv ((l.drop i).map λx=>(x.1.1,x.2))/\q=l.length - i,⟨l.length,0,by omega,rfl,rfl,by omega⟩,?_⟩
 rintro n k m1 q aB ⟨i,hi,hx,he,hq⟩
 simp only[List.cons.injEq,Value.int.injEq,and_true,true_and]at hx
 obtain⟨rfl,rfl⟩:=hx
 refine Zar (λaO=>?_) (λbO=>?_)
 ·have aW:i < l.length:=by have:(i:Int) < (l.length:Int):=aO;omega
  obtain⟨x,hx⟩:=Zde aW
  have hd:l.drop i=x::l.drop (i+1):=by
   rw[List.drop_eq_getElem_cons aW,(zA0 hx).2]
  obtain⟨b1,o1,ha,eW⟩:=Zaj (cs:=λx:(Int×Nat×List Value)×Bool=>ZEb x.1) (λx=>ZyC x.1) (hr.mono aB) hx (by omega)
  refine⟨b1,o1,ha,⟨by omega,by show(i:Int) < (l.length:Int);omega⟩,_,_,eW,λb2=>Zaa rfl ⟨_,_,_,rfl,?_⟩⟩
  refine Zae (hp x (zA2 hx) m1 aB) λm2 aM=>Zab (λh=>Zac (mLt aB aM) ?_) (λh=>?_)
  ·show Value.int _ _=Value.int _ _
   rw[he,hd,List.map_cons,Zcv,if_pos h]
  ·refine⟨l.length - (i+1),by omega,i+1,by omega,by rw[Zan (by omega) (by omega)];rfl,?_,rfl⟩
   rw[he,hd,List.map_cons,Zcv,if_neg (by rw[h];decide)]
 ·have hi':i=l.length:=by have:¬(i:Int) < (l.length:Int):=bO;omega
  refine Zac aB ?_
  show Value.int _ _=Value.int _ _
  rw[he,hi',List.drop_length];rfl
theorem ZvZ(v:Va)(m:Mem):CX Tryz.prog 147 #[.agg #[.bool v.b,.string v.t,.float .f64 v.x]] m [] (Ret (.bool (ZfK v))):=by
 apply Zlr
 intro b m1 aB _
 refine Zab (λhb=>⟨ZfK v,Zae (ZqU v.x m1) λm2 aM=>Zab (λh=>⟨by trivial,Zah ?_⟩) (λh=>⟨by trivial,Zah ?_⟩),Zac aB rfl⟩) (λhb=>⟨ZfK v,⟨_,ZqT v.x,Zaa rfl (Zab (λh=>⟨by trivial,Zah ?_⟩) (λh=>⟨by trivial,Zah ?_⟩))⟩,Zac aB rfl⟩)
 ·unfold ZfK;rw[hb,if_pos rfl,h,Zcu];rfl
 ·unfold ZfK;rw[hb,if_pos rfl,h];rfl
 ·unfold ZfK;rw[hb,if_neg (by decide)]
  have:v.x=0:=by
   have h2:=eq_of_beq (show((v.x:Int) == 0)=true from h);omega
  rw[this]
  show decide ((v.t.size:Int)<=512)=(true&&decide (v.t.size<=512))
  rw[Bool.true_and,decide_eq_decide];omega
 ·unfold ZfK;rw[hb,if_neg (by decide)]
  have:¬v.x=0:=by
   intro e
   have h2:((v.x:Int) == 0)=false:=h
   rw[e]at h2;simp at h2
  rw[beq_eq_false_iff_ne.2 this];rfl
theorem ZlM(p q:Pt)(b:Nat)(m:Mem)(hq:RepP m q)(hb:m.reads b 0 q.cs):CX Tryz.prog 189 #[p.v,.pointer (some ⟨b,0,none⟩)] m [] (Ret (.bool (q.s.toList == p.s.toList&&(q.g == p.g&&(p.k == 4||ZmR q.e))))):=by
 apply Zdp (c0b:=b) (c0o:=0)
 intro b1 m1 aB _
 have cR:=hb.mono aB
 refine⟨q.s.toList == p.s.toList&&(q.g == p.g&&(p.k == 4||ZmR q.e)),⟨_,cR 1 _ rfl,Zaa rfl (Zab (λh=>⟨_,cR 2 _ rfl,Zaa rfl (Zab (λh2=>Zab (λh3=>⟨by trivial,Zah ?_⟩) (λh3=>⟨q.e.k |> Value.int .u8,.float .f64 q.e.x,.string q.e.s,.int .i64 q.e.g,.slice q.e.a q.e.subs.length q.e.c,?_,?_⟩)) (λh2=>⟨by trivial,Zah ?_⟩))⟩) (λh=>⟨by trivial,Zah ?_⟩))⟩,Zac aB rfl⟩
 ·have h:(q.s.toList == p.s.toList)=true:=h
  have h2:(q.g == p.g)=true:=h2
  rw[h,h2,h3];rfl
 ·exact λi v hi=>by
   have:=cR (3+i) v (by unfold Pt.cs;rw[show 3+i=i+3 from by omega];exact hi)
   rw[show 0+3+i=0+(3+i) from by omega];exact this
 ·have h:(q.s.toList == p.s.toList)=true:=h
  have h2:(q.g == p.g)=true:=h2
  refine Zae (ZlL q.e E0 m1 (RepE.mono aB _ hq.e) (Zzr m1)) λm2 aM=>⟨by trivial,Zah ?_⟩
  rw[h,h2,h3];rfl
 ·have h:(q.s.toList == p.s.toList)=true:=h
  have h2:(q.g == p.g)=false:=h2
  rw[h,h2];rfl
 ·have h:(q.s.toList == p.s.toList)=false:=h
  rw[h];rfl
theorem Zoa(p:Pt)(m:Mem)(hp:RepP m p):CX Tryz.prog 172 #[p.v] m [] (Ret (.bool (Zbu p))):=by
 apply ZdO
 intro b m1 aB hb
 have t5:=hp.mono aB
 have one:=λ(p':Pt)(M:Mem)(hM:m1.le M)=>ZlM p' p b M (t5.mono hM) (hb.mono hM)
 have kt:∀x:ByteArray,((⟨#[]⟩:ByteArray).toList == x.toList)=(x.size == 0):=λx=>by rw[<-Zcu,Bool.beq_comm]
 refine Zab (λh1=>⟨Zbu p,Zar (λh2=>Zar (λh3=>Zae (one ⟨p.k,p.s,0,E0⟩ m1 (Mem.le_refl _)) λm2 aM=>⟨by trivial,Zah ?_⟩) (λh3=>⟨by trivial,Zah ?_⟩)) (λh2=>⟨by trivial,Zah ?_⟩),Zac aB rfl⟩)
  (λh1=>Zab (λh2=>⟨Zbu p,Zae (Zii p.s hp.s m1) λm2 aM=>Zab (λh3=>Zae (one ⟨p.k,p.s,0,E0⟩ m2 aM) λm3 aY=>⟨by trivial,Zah ?_⟩) (λh3=>⟨by trivial,Zah ?_⟩),Zac aB rfl⟩)
   (λh2=>Zab (λh3=>⟨Zbu p,Zar (λh4=>Zar (λh5=>Zae (one ⟨p.k,⟨#[]⟩,p.g,E0⟩ m1 (Mem.le_refl _)) λm2 aM=>⟨by trivial,Zah ?_⟩) (λh5=>⟨by trivial,Zah ?_⟩)) (λh4=>⟨by trivial,Zah ?_⟩),Zac aB rfl⟩)
    (λh3=>Zab (λh4=>⟨Zbu p,Zae (ZqW p.e m1 (RepE.mono aB _ hp.e)) λm2 aM=>Zab (λh5=>Zae (one ⟨p.k,⟨#[]⟩,0,E0⟩ m2 aM) λm3 aY=>⟨by trivial,Zah ?_⟩) (λh5=>⟨by trivial,Zah ?_⟩),Zac aB rfl⟩) (λh4=>Zac aB ?_))))
 ·have k1:p.k=1:=by simpa using h1
  have g2:p.s.size > 0:=by omega
  have g3:p.s.size<=512:=by omega
  unfold Zbu;simp[k1,g2,g3]
 ·have k1:p.k=1:=by simpa using h1
  have g3:¬p.s.size<=512:=by omega
  unfold Zbu;rw[if_pos k1,decide_eq_false g3];simp
 ·have k1:p.k=1:=by simpa using h1
  have g2:¬p.s.size > 0:=by omega
  unfold Zbu;rw[if_pos k1,decide_eq_false g2];rfl
 ·have k2:p.k=2:=by simpa using h2
  unfold Zbu;simp[k2,h3]
 ·have k2:p.k=2:=by simpa using h2
  unfold Zbu;simp[k2,h3]
 ·have k3:p.k=3:=by simpa using h3
  unfold Zbu;rw[if_neg (by omega),if_neg (by omega),if_pos k3,decide_eq_true h4,decide_eq_true h5,Zcu];simp[k3]
 ·have k3:p.k=3:=by simpa using h3
  unfold Zbu;rw[if_neg (by omega),if_neg (by omega),if_pos k3,decide_eq_false h5];simp
 ·have k3:p.k=3:=by simpa using h3
  unfold Zbu;rw[if_neg (by omega),if_neg (by omega),if_pos k3,decide_eq_false h4];simp
 ·have k4:p.k=4:=by simpa using h4
  unfold Zbu;rw[if_neg (by omega),if_neg (by omega),if_neg (by omega),if_pos k4,h5,Zcu];simp[k4]
 ·have k4:p.k=4:=by simpa using h4
  unfold Zbu;rw[if_neg (by omega),if_neg (by omega),if_neg (by omega),if_pos k4,h5];rfl
 ·have k1:¬p.k=1:=by simpa using h1
  have k2:¬p.k=2:=by simpa using h2
  have k3:¬p.k=3:=by simpa using h3
  have k4:¬p.k=4:=by simpa using h4
  show Value.bool false=Value.bool (Zbu p)
  unfold Zbu;rw[if_neg k1,if_neg k2,if_neg k3,if_neg k4]
theorem Zv0(r:Ru)(m:Mem)(hr:RepR m r):CX Tryz.prog 157 #[.agg r.cs.toArray] m [] (Ret (.bool (Za3 r))):=by
 apply ZhU
 intro b m1 aB _
 refine⟨Zzt r,Zab (λh=>⟨by trivial,Zah ?_⟩) (λh=>Zab (λh2=>⟨by trivial,Zah ?_⟩) (λh2=>Zae (Zxi r.t T0 m1 (hr.t.mono aB) (ZB6 m1)) λm2 aM=>⟨by trivial,Zah ?_⟩)),?_⟩
 ·unfold Zzt;rw[h];rfl
 ·unfold Zzt;rw[h,h2];rfl
 ·unfold Zzt;rw[h,h2];rfl
 refine Zab (λk2=>?_) (λk2=>Zab (λk4=>?_) (λk4=>Zab (λk3=>?_) (λk3=>Zab (λk1=>?_) (λk1=>?_))))
 ·have k2:r.k=2:=by simpa using k2
  refine⟨Za3 r,Zab (λh=>Zab (λh2=>Zae (ZeP r.s.size 1 64 m1) λm2 aM=>⟨by trivial,Zah ?_⟩) (λh2=>⟨by trivial,Zah ?_⟩)) (λh=>⟨by trivial,Zah ?_⟩),Zac aB rfl⟩
  ·unfold Za3;rw[if_pos k2,h,show(r.n == 0)=true from h2];rfl
  ·unfold Za3;rw[if_pos k2,h,show(r.n == 0)=false from h2];rfl
  ·unfold Za3;rw[if_pos k2,h];rfl
 ·have k2:¬r.k=2:=by simpa using k2
  have k4:r.k=4:=by simpa using k4
  refine⟨Za3 r,Zab (λh=>Zab (λh2=>Zae (ZeP r.n 1 1000 m1) λm2 aM=>⟨by trivial,Zah ?_⟩) (λh2=>⟨by trivial,Zah ?_⟩)) (λh=>⟨by trivial,Zah ?_⟩),Zac aB rfl⟩
  ·rw[Zcu]at h2;unfold Za3;rw[if_neg k2,if_pos k4,h,h2];rfl
  ·rw[Zcu]at h2;unfold Za3;rw[if_neg k2,if_pos k4,h,h2];rfl
  ·unfold Za3;rw[if_neg k2,if_pos k4,h];rfl
 ·have k2:¬r.k=2:=by simpa using k2
  have k4:¬r.k=4:=by simpa using k4
  have k3:r.k=3:=by simpa using k3
  refine Zab (λh=>Zac aB ?_) (λh=>⟨Za3 r,Zab (λh2=>⟨by trivial,Zah ?_⟩) (λh2=>⟨by trivial,Zah ?_⟩),Zac aB rfl⟩)
  ·show Value.bool false=Value.bool (Za3 r)
   unfold Za3;rw[if_neg k2,if_neg k4,if_pos k3,h];rfl
  ·rw[Zcu]at h2;unfold Za3;rw[if_neg k2,if_neg k4,if_pos k3,h,h2];rfl
  ·rw[Zcu]at h2;unfold Za3;rw[if_neg k2,if_neg k4,if_pos k3,h,h2];rfl
 ·have k2:¬r.k=2:=by simpa using k2
  have k4:¬r.k=4:=by simpa using k4
  have k3:¬r.k=3:=by simpa using k3
  have k1:r.k=1:=by simpa using k1
  refine⟨Za3 r,Zab (λh2=>⟨by trivial,Zah ?_⟩) (λh2=>⟨by trivial,Zah ?_⟩),Zac aB rfl⟩
  ·rw[Zcu]at h2;unfold Za3;rw[if_neg k2,if_neg k4,if_neg k3,if_pos k1,h2];rfl
  ·rw[Zcu]at h2;unfold Za3;rw[if_neg k2,if_neg k4,if_neg k3,if_pos k1,h2];rfl
 ·have k2:¬r.k=2:=by simpa using k2
  have k4:¬r.k=4:=by simpa using k4
  have k3:¬r.k=3:=by simpa using k3
  have k1:¬r.k=1:=by simpa using k1
  refine Zac aB ?_
  show Value.bool false=Value.bool (Za3 r)
  unfold Za3;rw[if_neg k2,if_neg k4,if_neg k3,if_neg k1]
theorem ZcI{m:Mem}{b o:Nat}{cs:List Value}(h:m.reads b o cs)(k n:Nat):m.reads b (o+k) ((cs.drop k).take n):=λi v hi=>by
 rw[Nat.add_assoc]
 refine h (k+i) v ?_
 rw[List.getElem?_take]at hi
 split at hi
 ·rwa [List.getElem?_drop]at hi
 ·cases hi
theorem Zq1{α:Type}{cs:α->List Value}{m:Mem}{a:Option Addr}{L:List α}(h:rowRd m a (L.map cs).flatten)(k:Nat):rowRd m a ((L.take k).map cs).flatten:=by
 have e:(L.map cs).flatten=((L.take k).map cs).flatten++((L.drop k).map cs).flatten:=by
  rw[<-List.flatten_append,<-List.map_append,List.take_append_drop]
 rw[e]at h
 rcases h with h|⟨b,o,ha,h⟩
 ·exact .inl (List.append_eq_nil_iff.1 h).1
 ·refine .inr ⟨b,o,ha,λj v hj=>h j v ?_⟩
  rw[zA5 (zA0 hj).1];exact hj
section
variable {m:Mem} {b:Nat}
theorem Zv1(s:Sc)(hb:m.reads b 0 s.cs):CX Tryz.prog 150 #[.pointer (some ⟨b,0,none⟩)] m [] (Ret (.bool (!ZbN s.n 2 256))):=by
 apply ZgP (c0b:=b) (c0o:=0)
 refine⟨_,hb 0 _ rfl,Zae (ZeP s.n 2 256 m) λm1 aB=>Zac aB rfl⟩
theorem Zv2(s:Sc)(hb:m.reads b 0 s.cs):CX Tryz.prog 152 #[.pointer (some ⟨b,0,none⟩)] m [] (Ret (.bool (!ZbN s.states.length 1 24||decide (s.vars.length > 12)))):=by
 apply ZgQ (c0b:=b) (c0o:=0)
 refine⟨!ZbN s.states.length 1 24||decide (s.vars.length > 12),⟨_,hb 2 _ rfl,Zaa rfl (Zae (ZeP s.states.length 1 24 m) λm1 aB=>Zab (λh=>Zah ?_) (λh=>⟨_,(hb.mono aB) 1 _ rfl,Zaa rfl (Zah ?_)⟩))⟩,Zac (Mem.le_refl m) rfl⟩
 ·rw[h];rfl
 ·rw[h]
  show decide ((s.vars.length:Int) > 12)=(false||decide (s.vars.length > 12))
  rw[Bool.false_or,decide_eq_decide];omega
theorem ZyD(s:Sc)(hr:RepC m s):CX Tryz.prog 137 #[s.v] m [] (Ret (.int .i64 (ZnA s))):=by
 apply Zjj
 intro b m1 aB hb b1 hf
 have bW:=Mem.le_add hf ([.int .i64 300,.func (.func 150) #[] #[.pointer (some ⟨b,0,none⟩)],.int .i64 302,.func (.func 152) #[] #[.pointer (some ⟨b,0,none⟩)]])
 refine Zav (ZgD [((300,150,[.pointer (some ⟨b,0,none⟩)]),!ZbN s.n 2 256),((302,152,[.pointer (some ⟨b,0,none⟩)]),!ZbN s.states.length 1 24||decide (s.vars.length > 12))] _ 2 _ (by simp) (.inr ⟨b1,0,rfl,Zb6 m1 b1 _⟩) λx hx m' hm'=>?_) λm2 aM=>Zac (mLt aB (mLt bW aM)) rfl
 have hb':=hb.mono (mLt bW hm')
 simp only[List.mem_cons,List.not_mem_nil,or_false]at hx
 rcases hx with rfl|rfl
 ·exact Zv1 s hb'
 ·exact Zv2 s hb'
theorem ZlN(v x:Va)(m:Mem)(b:Nat)(hb:m.reads b 0 v.cs):CX Tryz.prog 149 #[.agg x.cs.toArray,.pointer (some ⟨b,0,none⟩)] m [] (Ret (.bool (eqS x.s v.s))):=by
 apply ZdP (c0b:=b) (c0o:=0)
 intro b1 m1 aB _
 exact⟨_,(hb.mono aB) 0 _ rfl,Zaa rfl (Zac aB rfl)⟩
theorem Zob(s:Sc)(i:Nat)(v:Va)(m:Mem)(b0 b1 b2:Nat)(hr:RepC m s)(hi:i<=s.vars.length)(hv:RepV v)(h0:m.reads b0 0 v.cs)(h1:m.reads b1 0 s.cs)(h2:m.reads b2 0 [.int .i64 i]):
  CX Tryz.prog 145 #[.pointer (some ⟨b0,0,none⟩),.pointer (some ⟨b1,0,none⟩),.pointer (some ⟨b2,0,none⟩)] m [] (Ret (.bool (!ZcQ v.s||(!ZfK v||(s.vars.take i).any λx=>eqS x.s v.s)))):=by
 apply ZeM (c0b:=b0) (c0o:=0) (c1b:=b1) (c1o:=0) (c2b:=b2) (c2o:=0)
 have gE:=hr.vlen
 unfold few at gE
 refine⟨_,h0 0 _ rfl,Zae (Zii v.s hv.s m) λm1 aB=>Zab (λh=>Zac aB ?_) (λh=>⟨_,_,_,ZcI (h0.mono aB) 1 3,Zae (ZvZ v m1) λm2 aM=>Zab (λh'=>Zac (mLt aB aM) ?_) (λh'=>?_)⟩)⟩
 ·show Value.bool true=Value.bool _
  rw[h];rfl
 ·show Value.bool true=Value.bool _
  rw[h,h'];rfl
 ·have hm:=mLt aB aM
  have hc:=hr.vcap
  have key:=ZvW (s.vars.take i) s.va s.vc 149 [.pointer (some ⟨b0,0,none⟩)] (λx=>eqS x.s v.s) m2 (by rw[List.length_take];omega) (Zq1 (hr.vrow.mono hm) i) λx _ m' hm'=>ZlN v x m' b0 (h0.mono (mLt hm hm'))
  rw[List.length_take,Nat.min_eq_left hi]at key
  refine⟨_,(h1.mono hm) 1 _ rfl,_,(h2.mono hm) 0 _ rfl,Zaa rfl (Zaa rfl ⟨⟨Int.natCast_nonneg i,by show(i:Int)<=(s.vc:Int);omega⟩,Zae key λm3 aY=>Zac (mLt hm aY) ?_⟩)⟩
  show Value.bool _=Value.bool _
  rw[h,h'];rfl
theorem Zq2(s:Sc)(i:Nat)(v:Va)(m:Mem)(hr:RepC m s)(hi:s.vars[i]?=some v):CX Tryz.prog 136 #[s.v,.int .i64 i] m [] (Ret (.int .i64 (ZfL s i v))):=by
 apply ZfV
 intro b m1 aB hb b1 m2 aM cR
 have gE:=hr.vlen
 unfold few at gE
 have aO:=(zA0 hi).1
 have bW:=mLt aB aM
 obtain⟨b2,o2,ha,hx⟩:=Zaj Va.len (hr.vrow.mono bW) hi (by omega)
 refine⟨b2,o2,ha,⟨by omega,by omega⟩,_,_,_,_,hx,λb3=>Zaa rfl λb4 hf m3 aY eY=>?_⟩
 have li:=mLt (Mem.le_add hf _) aY
 have dM:=mLt bW li
 refine Zav (ZgD [((301,145,[.pointer (some ⟨b3,0,none⟩),.pointer (some ⟨b,0,none⟩),.pointer (some ⟨b1,0,none⟩)]),!ZcQ v.s||(!ZfK v||(s.vars.take i).any λx=>eqS x.s v.s))] _ 1 _ (by simp) (.inr ⟨b4,0,rfl,(Zb6 m2 b4 _).mono aY⟩) λx hx m' hm'=>?_) λm4 bP=>Zac (mLt dM bP) rfl
 simp only[List.mem_cons,List.not_mem_nil,or_false]at hx
 subst hx
 have hl':=mLt li hm'
 exact Zob s i v m' b3 b b1 (hr.mono (mLt dM hm')) (by omega) (hr.vall v (zA2 hi)) (eY.mono hm') (hb.mono (mLt aM hl')) (cR.mono hl')
theorem ZsI(v x:Sta)(m:Mem)(b:Nat)(hb:m.reads b 0 v.cs):CX Tryz.prog 155 #[.agg x.cs.toArray,.pointer (some ⟨b,0,none⟩)] m [] (Ret (.bool (eqS x.s v.s))):=by
 apply Zfa (c0b:=b) (c0o:=0)
 intro b1 m1 aB _
 exact⟨_,(hb.mono aB) 0 _ rfl,Zaa rfl (Zac aB rfl)⟩
theorem Zv3(s:Sc)(i:Nat)(v:Sta)(m:Mem)(b0 b1 b2:Nat)(hr:RepC m s)(hi:i<=s.states.length)(hv:RepS m v)(h0:m.reads b0 0 v.cs)(h1:m.reads b1 0 s.cs)(h2:m.reads b2 0 [.int .i64 i]):
  CX Tryz.prog 153 #[.pointer (some ⟨b0,0,none⟩),.pointer (some ⟨b1,0,none⟩),.pointer (some ⟨b2,0,none⟩)] m [] (Ret (.bool (!ZcQ v.s||(decide (v.rules.length > 12)||(s.states.take i).any λx=>eqS x.s v.s)))):=by
 apply ZgS (c0b:=b0) (c0o:=0) (c1b:=b1) (c1o:=0) (c2b:=b2) (c2o:=0)
 have gE:=hr.len
 unfold few at gE
 refine⟨_,h0 0 _ rfl,Zae (Zii v.s hv.s m) λm1 aB=>Zab (λh=>Zac aB ?_) (λh=>⟨_,(h0.mono aB) 1 _ rfl,Zaa rfl (Zar (λh'=>Zac aB ?_) (λh'=>?_))⟩)⟩
 ·show Value.bool true=Value.bool _
  rw[h];rfl
 ·have h':(v.rules.length:Int) > 12:=h'
  show Value.bool true=Value.bool _
  rw[h,decide_eq_true (by omega)];rfl
 ·have h':¬(v.rules.length:Int) > 12:=h'
  have hc:=hr.scap
  have key:=ZvV (s.states.take i) s.sa s.sc 155 [.pointer (some ⟨b0,0,none⟩)] (λx=>eqS x.s v.s) m1 (by rw[List.length_take];omega) (Zq1 (hr.row.mono aB) i) λx _ m' hm'=>ZsI v x m' b0 (h0.mono (mLt aB hm'))
  rw[List.length_take,Nat.min_eq_left hi]at key
  refine⟨_,(h1.mono aB) 2 _ rfl,_,(h2.mono aB) 0 _ rfl,Zaa rfl (Zaa rfl ⟨⟨Int.natCast_nonneg i,by show(i:Int)<=(s.sc:Int);omega⟩,Zae key λm3 aY=>Zac (mLt aB aY) ?_⟩)⟩
  show Value.bool _=Value.bool _
  rw[h,decide_eq_false (by omega)];rfl
theorem ZyE(s:Sc)(i:Nat)(v:Sta)(m:Mem)(hr:RepC m s)(hi:s.states[i]?=some v):CX Tryz.prog 138 #[s.v,.int .i64 i] m [] (Ret (.int .i64 (ZhG s i v))):=by
 apply Zjk
 intro b m1 aB hb b1 m2 aM cR
 have gE:=hr.len
 unfold few at gE
 have aO:=(zA0 hi).1
 have bW:=mLt aB aM
 obtain⟨b2,o2,ha,hx⟩:=Zaj Sta.len (hr.row.mono bW) hi (by omega)
 refine⟨b2,o2,ha,⟨by omega,by omega⟩,_,_,hx,λb3=>Zaa rfl λb4 hf m3 aY eY=>?_⟩
 have li:=mLt (Mem.le_add hf _) aY
 have dM:=mLt bW li
 refine Zav (ZgD [((303,153,[.pointer (some ⟨b3,0,none⟩),.pointer (some ⟨b,0,none⟩),.pointer (some ⟨b1,0,none⟩)]),!ZcQ v.s||(decide (v.rules.length > 12)||(s.states.take i).any λx=>eqS x.s v.s))] _ 1 _ (by simp) (.inr ⟨b4,0,rfl,(Zb6 m2 b4 _).mono aY⟩) λx hx m' hm'=>?_) λm4 bP=>Zac (mLt dM bP) rfl
 simp only[List.mem_cons,List.not_mem_nil,or_false]at hx
 subst hx
 have hl':=mLt li hm'
 have h0':=mLt dM hm'
 exact Zv3 s i v m' b3 b b1 (hr.mono h0') (by omega) ((hr.all v (zA2 hi)).mono h0') (eY.mono hm') (hb.mono (mLt aM hl')) (cR.mono hl')
theorem ZyF(r:Ru)(m:Mem)(b:Nat)(hr:RepR m r)(hb:m.reads b 0 r.cs):CX Tryz.prog 156 #[.pointer (some ⟨b,0,none⟩)] m [] (Ret (.bool (!Za3 r||decide (r.acts.length > 8)))):=by
 apply ZhY (c0b:=b) (c0o:=0)
 refine⟨!Za3 r||decide (r.acts.length > 8),⟨_,_,_,_,_,_,_,_,_,_,_,_,_,_,_,_,hb,Zae (Zv0 r m hr) λm1 aB=>Zab (λh=>Zah ?_) (λh=>⟨_,(hb.mono aB) 13 _ rfl,Zaa rfl (Zah ?_)⟩)⟩,Zac (Mem.le_refl m) rfl⟩
 ·rw[h];rfl
 ·rw[h]
  show decide ((r.acts.length:Int) > 8)=(false||decide (r.acts.length > 8))
  rw[Bool.false_or,decide_eq_decide];omega
theorem ZyG(r:Ru)(total:Int)(m:Mem)(b b1:Nat)(hr:RepR m r)(hb:m.reads b 0 r.cs)(cR:m.reads b1 0 [.int .i64 total]):CX Tryz.prog 158 #[.pointer (some ⟨b,0,none⟩),.pointer (some ⟨b1,0,none⟩)] m [] (Ret (.bool (r.k == 1&&(!(r.t.check == 0)||decide (total > 600))))):=by
 apply ZhZ (c0b:=b) (c0o:=0) (c1b:=b1) (c1o:=0)
 refine⟨r.k == 1&&(!(r.t.check == 0)||decide (total > 600)),⟨_,hb 0 _ rfl,Zaa rfl (Zab (λh=>⟨_,_,_,_,_,_,_,_,_,_,ZcI hb 1 10,Zav (Zyq r.bg r.en r.t m hr.t) λm1 aB=>Zab (λh2=>Zah ?_) (λh2=>⟨_,(cR.mono aB) 0 _ rfl,Zaa rfl (Zah ?_)⟩)⟩) (λh=>Zah ?_))⟩,Zac (Mem.le_refl m) rfl⟩
 ·rw[show(r.k == 1)=true from h,h2];rfl
 ·rw[show(r.k == 1)=true from h,h2];rfl
 ·rw[show(r.k == 1)=false from h];rfl
theorem ZyH(s:Sc)(r:Ru)(m:Mem)(b b1:Nat)(hs:RepC m s)(hr:RepR m r)(hb:m.reads b 0 s.cs)(cR:m.reads b1 0 r.cs):CX Tryz.prog 160 #[.pointer (some ⟨b,0,none⟩),.pointer (some ⟨b1,0,none⟩)] m [] (Ret (.bool (if r.go.size=0 then !ZbN r.code 0 255 else !Zkj s r.go||!(r.code == 0)))):=by
 apply Zh0 (c0b:=b) (c0o:=0) (c1b:=b1) (c1o:=0)
 refine⟨_,_,_,hb,_,cR 14 _ rfl,Zai (ZAG s r.go m hs) ZvY ?_⟩
 rintro n ok m1 aB ⟨n',hv⟩
 have cE:ok=Zkj s r.go:=by
  have hv:Value.tuple (Array.mk [Value.int .i64 n,Value.bool ok])=Value.tuple #[.int .i64 n',.bool (Zkj s r.go)]:=hv
  simp only[Value.tuple.injEq,Array.mk.injEq,List.cons.injEq,Value.bool.injEq,and_true]at hv
  exact hv.2
 subst cE
 refine⟨_,(cR.mono aB) 14 _ rfl,Zaa rfl (Zab (λh=>⟨_,(cR.mono aB) 15 _ rfl,Zae (ZeP r.code 0 255 m1) λm2 aM=>Zac (mLt aB aM) ?_⟩) (λh=>⟨!Zkj s r.go||!(r.code == 0),Zab (λh2=>Zah ?_) (λh2=>⟨_,(cR.mono aB) 15 _ rfl,Zaa rfl (Zah ?_)⟩),Zac aB ?_⟩))⟩
 ·have h:(r.go.size == 0)=true:=by rw[<-Zcu];exact h
  show Value.bool _=Value.bool _
  rw[if_pos (by simpa using h)]
 ·rw[h2];rfl
 ·rw[h2];rfl
 ·have h:(r.go.size == 0)=false:=by rw[<-Zcu];exact h
  show Value.bool _=Value.bool _
  rw[if_neg (by simpa using h)]
theorem ZAH(s:Sc)(r:Ru)(total:Int)(m:Mem)(hs:RepC m s)(hr:RepR m r):CX Tryz.prog 139 #[s.v,.agg r.cs.toArray,.int .i64 total] m [] (Ret (.int .i64 (Zk3 s r total))):=by
 apply Zlx
 intro b m1 aB hb b1 m2 aM cR b2 m3 aY eR b3 hf
 have dM:=mLt aB (mLt aM aY)
 refine Zav (ZgD [((304,156,[.pointer (some ⟨b1,0,none⟩)]),!Za3 r||decide (r.acts.length > 8)),((305,158,[.pointer (some ⟨b1,0,none⟩),.pointer (some ⟨b2,0,none⟩)]),r.k == 1&&(!(r.t.check == 0)||decide (total > 600))),
  ((306,160,[.pointer (some ⟨b,0,none⟩),.pointer (some ⟨b1,0,none⟩)]),if r.go.size=0 then !ZbN r.code 0 255 else !Zkj s r.go||!(r.code == 0))] _ 3 _ (by simp) (.inr ⟨b3,0,rfl,Zb6 m3 b3 _⟩) λx hx m' hm'=>?_) λm4 bP=>Zac (mLt dM (mLt (Mem.le_add hf _) bP)) rfl
 have hl:=mLt (Mem.le_add hf _) hm'
 have h0':=mLt dM hl
 simp only[List.mem_cons,List.not_mem_nil,or_false]at hx
 rcases hx with rfl|rfl|rfl
 ·exact ZyF r m' b1 (hr.mono h0') (cR.mono (mLt aY hl))
 ·exact ZyG r total m' b1 b2 (hr.mono h0') (cR.mono (mLt aY hl)) (eR.mono hl)
 ·exact ZyH s r m' b b1 (hs.mono h0') (hr.mono h0') (hb.mono (mLt aM (mLt aY hl))) (cR.mono (mLt aY hl))
end
def Zxm(a:Ac):Bool:=!ZbN a.k 1 3||(a.k == 1&&!(a.s.size == 0))||(a.k == 3&&decide (a.parts.length > 0))||(a.k == 3&&!a.e.clean)||(!(a.k == 3)&&!ZmR a.e)||decide (a.parts.length > 16)
theorem ZsJ(a:Ac)(m:Mem)(b b1:Nat)(hr:RepA m a)(hb:m.reads b 0 a.cs)(cR:m.reads b1 0 [.bool (a.k == 3)]):CX Tryz.prog 162 #[.pointer (some ⟨b,0,none⟩),.pointer (some ⟨b1,0,none⟩)] m [] (Ret (.bool (Zxm a))):=by
 apply ZfX (c0b:=b) (c0o:=0) (c1b:=b1) (c1o:=0)
 have hw:IntKind.i64.wrap a.k=a.k:=Zan (by have:=hr.k;omega) (by have:=hr.k;omega)
 have num:∀{M:Mem} {Q:Bool->Prop},m.le M->Q (a.k == 3)->∃v:Value,M.c b1 0=some v/\∃x:Bool,v=.bool x/\Q x:=λhM h=>⟨_,(cR.mono hM) 0 _ rfl,_,rfl,h⟩
 have big:∀{M:Mem},m.le M->Zxm a=decide (a.parts.length > 16)->∃v:Value,M.c b (0+2)=some v/\chk (Zbb v) ([Value.bool (decide ((slN v:Int) > 16))]=[Value.bool (Zxm a)]):=λhM h=>⟨_,(hb.mono hM) 2 _ rfl,Zaa rfl (Zah (by
  rw[h]
  show decide ((a.parts.length:Int) > 16)=decide (a.parts.length > 16)
  rw[decide_eq_decide];omega))⟩
 refine⟨Zxm a,?_,Zac (Mem.le_refl m) rfl⟩
 refine⟨_,hb 0 _ rfl,Zaa rfl ?_⟩
 show ∃R:RT,True/\CX Tryz.prog 151 #[.int .i64 (IntKind.i64.wrap a.k),.int .i64 1,.int .i64 3] m [] R/\_
 rw[hw]
 refine Zae (ZeP a.k 1 3 m) λm1 aB=>Zab (λh=>Zah ?_) (λjl=>⟨_,(hb.mono aB) 0 _ rfl,Zaa rfl ?_⟩)
 ·unfold Zxm;rw[h];rfl
 cases hn:(a.k == 3)with
 | true=>
  have hk:a.k=3:=by simpa using hn
  refine ZdQ (by show(a.k == 1)=false;rw[hk];rfl) (num aB (ZrB hn ⟨_,(hb.mono aB) 2 _ rfl,Zaa rfl (Zar (λh=>Zah ?_) (λh=>num aB (ZrB hn ⟨_,_,_,_,_,ZcI (hb.mono aB) 3 5,Zae (ZqW a.e m1 (RepE.mono aB _ hr.e)) λm2 aM=>Zab (λh2=>Zah ?_) (λh2=>num (mLt aB aM) (ZdQ (by rw[hn];rfl) (big (mLt aB aM) ?_)))⟩)))⟩))
  ·have h:(a.parts.length:Int) > 0:=h
   unfold Zxm;rw[hn,decide_eq_true (p:=a.parts.length > 0) (by omega),jl];simp
  ·have h:¬(a.parts.length:Int) > 0:=h
   unfold Zxm;rw[hn,h2];simp
  ·have h:¬(a.parts.length:Int) > 0:=h
   unfold Zxm;rw[hn,h2,jl,decide_eq_false (p:=a.parts.length > 0) (by omega),hk];simp
 | false=>
  refine Zab (λh1=>⟨_,(hb.mono aB) 1 _ rfl,Zaa rfl (Zab (λh=>Zah ?_) (λh=>num aB (ZdQ hn (num aB (ZdQ hn (num aB (ZrB (by rw[hn];rfl) ⟨_,_,_,_,_,ZcI (hb.mono aB) 3 5,Zae (Zxl a.e m1 (RepE.mono aB _ hr.e)) λm2 aM=>Zab (λh2=>Zah ?_) (λh2=>big (mLt aB aM) ?_)⟩)))))))⟩)
   (λh1=>num aB (ZdQ hn (num aB (ZdQ hn (num aB (ZrB (by rw[hn];rfl) ⟨_,_,_,_,_,ZcI (hb.mono aB) 3 5,Zae (Zxl a.e m1 (RepE.mono aB _ hr.e)) λm2 aM=>Zab (λh2=>Zah ?_) (λh2=>big (mLt aB aM) ?_)⟩))))))
  ·have h1:(a.k == 1)=true:=h1
   have h:(!(a.s.size == 0))=true:=by rw[<-Zcu];exact h
   unfold Zxm;rw[h1,h];simp
  ·unfold Zxm;rw[hn,h2];simp
  ·have h:(!(a.s.size == 0))=false:=by rw[<-Zcu];exact h
   unfold Zxm;rw[hn,h2,h,jl];simp
  ·unfold Zxm;rw[hn,h2];simp
  ·have h1:(a.k == 1)=false:=h1
   unfold Zxm;rw[hn,h2,h1,jl];simp
def ZAI(s:Sc)(a:Ac):Bool:=(!(a.k == 1)&&(!(ZcU s a.s).2||!((ZcU s a.s).1 == (a.k == 3))))||(a.k == 3&&!ZcZ s a.e)
theorem ZsK(s:Sc)(a:Ac)(m:Mem)(b b1 b2:Nat)(hs:RepC m s)(hr:RepA m a)(hb:m.reads b 0 s.cs)(cR:m.reads b1 0 a.cs)(eR:m.reads b2 0 [.bool (a.k == 3)]):
  CX Tryz.prog 165 #[.pointer (some ⟨b,0,none⟩),.pointer (some ⟨b1,0,none⟩),.pointer (some ⟨b2,0,none⟩)] m [] (Ret (.bool (ZAI s a))):=by
 apply ZfY (c0b:=b) (c0o:=0) (c1b:=b1) (c1o:=0) (c2b:=b2) (c2o:=0)
 refine⟨_,_,_,hb,_,cR 1 _ rfl,Zai (Zt5 s a.s m hs) (λv _ _ e=>by rw[show v=_ from e];rfl) ?_⟩
 intro x y m1 aB hv
 have hv:Value.tuple (Array.mk [Value.bool x,Value.bool y])=Value.tuple #[.bool (ZcU s a.s).1,.bool (ZcU s a.s).2]:=hv
 simp only[Value.tuple.injEq,Array.mk.injEq,List.cons.injEq,Value.bool.injEq,and_true]at hv
 obtain⟨rfl,rfl⟩:=hv
 have num:∀{M:Mem} {Q:Bool->Prop},m.le M->Q (a.k == 3)->∃v:Value,M.c b2 0=some v/\∃x:Bool,v=.bool x/\Q x:=λhM h=>⟨_,(eR.mono hM) 0 _ rfl,_,rfl,h⟩
 have three:ZAI s a=(a.k == 3&&!ZcZ s a.e)->∃v:Value,m1.c b2 0=some v/\∃x:Bool,v=.bool x/\br x (∃v v4 v5:Value,m1.reads b 0 [v,v4,v5]/\∃v6 v7 v8 v9 v10:Value,m1.reads b1 (0+3) [v6,v7,v8,v9,v10]/\∃R:RT,True/\CX Tryz.prog 167 #[.agg #[v,v4,v5],.agg #[v6,v7,v8,v9,v10]] m1 [] R/\ZaZ .bool R/\∀(x:Bool)(m':Mem),m1.le m'->R (.bool x) m' []->[Value.bool !x]=[Value.bool (ZAI s a)]) ([Value.bool false]=[Value.bool (ZAI s a)]):=λhe=>num aB (Zab (λh3=>⟨_,_,_,hb.mono aB,_,_,_,_,_,ZcI (cR.mono aB) 3 5,Zae (ZiU s a.e m1 (hs.mono aB) (RepE.mono aB _ hr.e)) λm2 aM=>Zah (by rw[he,h3];rfl)⟩) (λh3=>Zah (by rw[he,h3];rfl)))
 refine⟨ZAI s a,⟨_,(cR.mono aB) 0 _ rfl,Zaa rfl (Zab (λh1=>Zab (λh2=>Zah ?_) (λh2=>num aB (Zab (λh3=>Zah ?_) (λh3=>three ?_)))) (λh1=>three ?_))⟩,Zac aB rfl⟩
 ·have h1:(!(a.k == 1))=true:=h1
  unfold ZAI;rw[h1,h2];rfl
 ·have h1:(!(a.k == 1))=true:=h1
  unfold ZAI;rw[h1,h3];simp
 ·have h1:(!(a.k == 1))=true:=h1
  unfold ZAI;rw[h1,h2,h3];rfl
 ·have h1:(!(a.k == 1))=false:=h1
  unfold ZAI;rw[h1];rfl
def ZDa(r:Ru)(a:Ac):Bool:=a.k == 3&&decide (a.e.most > Zcg r)
theorem ZsL(r:Ru)(a:Ac)(m:Mem)(b b1 b2:Nat)(hr:RepR m r)(ha:RepA m a)(hb:m.reads b 0 [.bool (a.k == 3)])(cR:m.reads b1 0 a.cs)(eR:m.reads b2 0 r.cs):
  CX Tryz.prog 168 #[.pointer (some ⟨b,0,none⟩),.pointer (some ⟨b1,0,none⟩),.pointer (some ⟨b2,0,none⟩)] m [] (Ret (.bool (ZDa r a))):=by
 apply ZfZ (c0b:=b) (c0o:=0) (c1b:=b1) (c1o:=0) (c2b:=b2) (c2o:=0)
 refine⟨λi _ _=>match i with
  | 4=>Ret (.int .i64 a.e.most)
  | _=>Ret (.int .i64 (Zcg r)),_,hb 0 _ rfl,_,rfl,Zab (λh=>?_) (λh M hM _ _=>Zac hM ?_)⟩
 ·refine⟨_,_,_,_,_,ZcI cR 3 5,_,rfl,Zt4 a.e m ha.e,λv _ _ e=>by rw[show v=_ from e];rfl,λn m1 aB hn=>?_⟩
  obtain rfl:n=a.e.most:=by cases hn;rfl
  refine⟨_,_,_,_,_,_,_,_,_,_,_,_,_,_,_,_,eR,_,rfl,ZgC r m1 (hr.t.mono aB),λv _ _ e=>by rw[show v=_ from e];rfl,λn1 m2 aM hn M hM _ _=>Zac hM ?_⟩
  obtain rfl:n1=Zcg r:=by cases hn;rfl
  show Value.bool _=Value.bool (ZDa r a)
  unfold ZDa;rw[h];rfl
 ·show Value.bool _=Value.bool (ZDa r a)
  unfold ZDa;rw[h];rfl
theorem Zv4(s:Sc)(r:Ru)(a:Ac)(m:Mem)(hs:RepC m s)(hr:RepR m r)(ha:RepA m a):CX Tryz.prog 140 #[s.v,.agg r.cs.toArray,.agg a.cs.toArray] m [] (Ret (.int .i64 (ZcS s r a))):=by
 apply Zh1
 intro b m1 aB hb b1 m2 aM cR b2 m3 aY eR b3 b4 hf m4 bP eY
 have dM:=mLt aB (mLt aM aY)
 have li:=mLt (Mem.le_add hf _) bP
 refine Zav (ZgD [((307,162,[.pointer (some ⟨b2,0,none⟩),.pointer (some ⟨b3,0,none⟩)]),Zxm a),((308,165,[.pointer (some ⟨b,0,none⟩),.pointer (some ⟨b2,0,none⟩),.pointer (some ⟨b3,0,none⟩)]),ZAI s a),
  ((309,168,[.pointer (some ⟨b3,0,none⟩),.pointer (some ⟨b2,0,none⟩),.pointer (some ⟨b1,0,none⟩)]),ZDa r a)] _ 3 _ (by simp) (.inr ⟨b4,0,rfl,(Zb6 m3 b4 _).mono bP⟩) λx hx m' hm'=>?_) λm5 cL=>Zac (mLt dM (mLt li cL)) rfl
 have hl:=mLt li hm'
 have h0':=mLt dM hl
 simp only[List.mem_cons,List.not_mem_nil,or_false]at hx
 rcases hx with rfl|rfl|rfl
 ·exact ZsJ a m' b2 b3 (ha.mono h0') (eR.mono hl) (eY.mono hm')
 ·exact ZsK s a m' b b2 b3 (hs.mono h0') (ha.mono h0') (hb.mono (mLt aM (mLt aY hl))) (eR.mono hl) (eY.mono hm')
 ·exact ZsL r a m' b3 b2 b1 (hr.mono h0') (ha.mono h0') (eY.mono hm') (eR.mono hl) (cR.mono (mLt aY hl))
def Zt6(l:List Pt)(i:Nat)(p:Pt):Bool:=!Zbu p||(decide (i > 0)&&(p.k == 1&&(match l[i - 1]? with
 | some q=>q.k == 1
 | none=>false)))
theorem ZyI(l:List Pt)(a:Option Addr)(c:Nat)(i:Nat)(p:Pt)(m:Mem)(b b1 b2:Nat)(hl:l.length<=few)(aN:rowRd m a (l.map Pt.cs).flatten)(hi:i<=l.length)(hp:RepP m p)(hb:m.reads b 0 p.cs)(cR:m.reads b1 0 [.int .i64 i])(eR:m.reads b2 0 [.slice a l.length c]):
  CX Tryz.prog 171 #[.pointer (some ⟨b,0,none⟩),.pointer (some ⟨b1,0,none⟩),.pointer (some ⟨b2,0,none⟩)] m [] (Ret (.bool (Zt6 l i p))):=by
 apply Zh2 (c0b:=b) (c0o:=0) (c1b:=b1) (c1o:=0) (c2b:=b2) (c2o:=0)
 unfold few at hl
 refine⟨Zt6 l i p,⟨_,_,_,_,_,_,_,_,hb,Zae (Zoa p m hp) λm1 aB=>Zab (λh=>Zah ?_) (λh=>⟨_,(cR.mono aB) 0 _ rfl,Zaa rfl (Zar (λh2=>⟨_,(hb.mono aB) 0 _ rfl,Zaa rfl (Zab (λh3=>?_) (λh3=>Zah ?_))⟩) (λh2=>Zah ?_))⟩)⟩,Zac (Mem.le_refl m) rfl⟩
 ·unfold Zt6;rw[h];rfl
 ·have h2:(i:Int) > 0:=h2
  have h3:(p.k == 1)=true:=h3
  have aO:i - 1 < l.length:=by omega
  obtain⟨q,hq⟩:=Zde aO
  have hw:IntKind.i64.wrap ((i:Int) - 1)=((i - 1:Nat):Int):=by rw[Zan (by omega) (by omega)];omega
  obtain⟨b3,o3,ha,hx⟩:=Zaj Pt.len (aN.mono aB) hq (by omega)
  refine⟨_,(eR.mono aB) 0 _ rfl,_,(cR.mono aB) 0 _ rfl,Zaa rfl (Zaa rfl ⟨b3,o3,ha,?_,.int .u8 q.k,?_,Zaa rfl (Zah ?_)⟩)⟩
  ·show Zaf (IntKind.i64.wrap ((i:Int) - 1)) l.length
   rw[hw];exact⟨by omega,by omega⟩
  ·show m1.c b3 (o3+(IntKind.i64.wrap ((i:Int) - 1)).toNat*8+0)=_
   rw[hw,zA8]
   exact hx 0 _ rfl
  ·show(q.k == 1)=_
   unfold Zt6;rw[h,decide_eq_true (p:=i > 0) (by omega),h3,hq];rfl
 ·have h3:(p.k == 1)=false:=h3
  unfold Zt6;rw[h,h3];simp
 ·have h2:¬(i:Int) > 0:=h2
  unfold Zt6;rw[h,decide_eq_false (p:=i > 0) (by omega)];rfl
def ZrK(s:Sc)(p:Pt):Bool:=(p.k == 2&&!(ZcU s p.s).2)||(p.k == 4&&!ZcZ s p.e)
theorem ZyJ(s:Sc)(p:Pt)(m:Mem)(b b1:Nat)(hs:RepC m s)(hp:RepP m p)(hb:m.reads b 0 s.cs)(cR:m.reads b1 0 p.cs):
  CX Tryz.prog 173 #[.pointer (some ⟨b,0,none⟩),.pointer (some ⟨b1,0,none⟩)] m [] (Ret (.bool (ZrK s p))):=by
 apply Zh3 (c0b:=b) (c0o:=0) (c1b:=b1) (c1o:=0)
 refine⟨_,_,_,hb,_,cR 1 _ rfl,Zai (Zt5 s p.s m hs) (λv _ _ e=>by rw[show v=_ from e];rfl) ?_⟩
 intro x y m1 aB hv
 have hv:Value.tuple (Array.mk [Value.bool x,Value.bool y])=Value.tuple #[.bool (ZcU s p.s).1,.bool (ZcU s p.s).2]:=hv
 simp only[Value.tuple.injEq,Array.mk.injEq,List.cons.injEq,Value.bool.injEq,and_true]at hv
 obtain⟨rfl,rfl⟩:=hv
 refine⟨ZrK s p,⟨_,(cR.mono aB) 0 _ rfl,Zaa rfl (Zab (λh1=>Zab (λh2=>Zah ?_) (λh2=>⟨_,(cR.mono aB) 0 _ rfl,Zaa rfl (Zab (λh3=>⟨_,_,_,hb.mono aB,_,_,_,_,_,ZcI (cR.mono aB) 3 5,Zae (ZiU s p.e m1 (hs.mono aB) (RepE.mono aB _ hp.e)) λm2 aM=>Zah ?_⟩) (λh3=>Zah ?_))⟩))
  (λh1=>⟨_,(cR.mono aB) 0 _ rfl,Zaa rfl (Zab (λh3=>⟨_,_,_,hb.mono aB,_,_,_,_,_,ZcI (cR.mono aB) 3 5,Zae (ZiU s p.e m1 (hs.mono aB) (RepE.mono aB _ hp.e)) λm2 aM=>Zah ?_⟩) (λh3=>Zah ?_))⟩))⟩,Zac aB rfl⟩
 ·have h1:(p.k == 2)=true:=h1
  unfold ZrK;rw[h1,h2];rfl
 ·have h1:(p.k == 2)=true:=h1
  have h3:(p.k == 4)=true:=h3
  unfold ZrK;rw[h1,h2,h3];rfl
 ·have h1:(p.k == 2)=true:=h1
  have h3:(p.k == 4)=false:=h3
  unfold ZrK;rw[h1,h2,h3];rfl
 ·have h1:(p.k == 2)=false:=h1
  have h3:(p.k == 4)=true:=h3
  unfold ZrK;rw[h1,h3];rfl
 ·have h1:(p.k == 2)=false:=h1
  have h3:(p.k == 4)=false:=h3
  unfold ZrK;rw[h1,h3];rfl
def ZoF(r:Ru)(p:Pt):Bool:=(p.k == 3&&decide (p.g > Zcg r))||(p.k == 4&&decide (p.e.most > Zcg r))
theorem ZyK(r:Ru)(p:Pt)(m:Mem)(b b1:Nat)(hr:RepR m r)(hp:RepP m p)(hb:m.reads b 0 p.cs)(cR:m.reads b1 0 r.cs):
  CX Tryz.prog 174 #[.pointer (some ⟨b,0,none⟩),.pointer (some ⟨b1,0,none⟩)] m [] (Ret (.bool (ZoF r p))):=by
 apply Zh4 (c0b:=b) (c0o:=0) (c1b:=b1) (c1o:=0)
 refine⟨λi _ _=>match i with
  | 17=>Ret (.int .i64 p.e.most)
  | _=>Ret (.int .i64 (Zcg r)),_,hb 0 _ rfl,Zaa rfl (Zab (λh3=>?_) (λh3=>?_))⟩
 ·have h3:(p.k == 3)=true:=h3
  have hk:p.k=3:=by simpa using h3
  refine⟨_,hb 2 _ rfl,_,_,_,_,_,_,_,_,_,_,_,_,_,_,_,_,cR,_,rfl,ZgC r m hr.t,λv _ _ e=>by rw[show v=_ from e];rfl,λn m1 aB hn=>?_⟩
  obtain rfl:n=Zcg r:=by cases hn;rfl
  refine Zaa rfl (Zar (λh=>λM hM _ _ _=>Zac hM ?_) (λh=>⟨_,(hb.mono aB) 0 _ rfl,Zaa rfl (ZdQ (by show(p.k == 4)=false;rw[hk];rfl) λM hM _ _ _=>Zac hM ?_)⟩))
  ·have h:p.g > Zcg r:=h
   show Value.bool _=Value.bool (ZoF r p)
   unfold ZoF;rw[h3,decide_eq_true h];rfl
  ·have h:¬p.g > Zcg r:=h
   show Value.bool _=Value.bool (ZoF r p)
   unfold ZoF;rw[decide_eq_false h,hk];rfl
 ·have h3:(p.k == 3)=false:=h3
  refine⟨_,hb 0 _ rfl,Zaa rfl (Zab (λh4=>?_) (λh4 M hM _ _ _=>Zac hM ?_))⟩
  ·have h4:(p.k == 4)=true:=h4
   refine⟨_,_,_,_,_,ZcI hb 3 5,_,rfl,Zt4 p.e m hp.e,λv _ _ e=>by rw[show v=_ from e];rfl,λn m1 aB hn=>?_⟩
   obtain rfl:n=p.e.most:=by cases hn;rfl
   refine⟨_,_,_,_,_,_,_,_,_,_,_,_,_,_,_,_,cR,_,rfl,ZgC r m1 (hr.t.mono aB),λv _ _ e=>by rw[show v=_ from e];rfl,λn1 m2 aM hn M hM _ _ _=>Zac hM ?_⟩
   obtain rfl:n1=Zcg r:=by cases hn;rfl
   show Value.bool _=Value.bool (ZoF r p)
   unfold ZoF;rw[h3,h4];rfl
  ·have h4:(p.k == 4)=false:=h4
   show Value.bool _=Value.bool (ZoF r p)
   unfold ZoF;rw[h3,h4];rfl
theorem Ztz(s:Sc)(r:Ru)(l:List Pt)(i:Nat)(p:Pt):Zkk s r l i p=Zcv [(307,Zt6 l i p),(308,ZrK s p),(309,ZoF r p)]:=rfl
theorem ZAJ(s:Sc)(r:Ru)(l:List Pt)(a:Option Addr)(c:Nat)(i:Nat)(p:Pt)(m:Mem)(hs:RepC m s)(hr:RepR m r)(hl:l.length<=few)(aN:rowRd m a (l.map Pt.cs).flatten)(cG:∀x∈l,RepP m x)(hi:l[i]?=some p):
  CX Tryz.prog 141 #[s.v,.agg r.cs.toArray,.slice a l.length c,.int .i64 i] m [] (Ret (.int .i64 (Zkk s r l i p))):=by
 apply Zly
 intro b m1 aB hb b1 m2 aM cR b2 m3 aY eR b3 m4 bP eY
 have om:=mLt aY bP
 have jz:=mLt aM om
 have ib:=mLt aB jz
 have aO:=(zA0 hi).1
 have hl':=hl
 unfold few at hl'
 obtain⟨b4,o4,ha,hx⟩:=Zaj Pt.len (aN.mono ib) hi (by omega)
 refine⟨b4,o4,ha,⟨by omega,by omega⟩,_,_,_,_,_,_,_,_,hx,λb5=>Zaa rfl λb6 hf m5 cL sM=>?_⟩
 have um:=mLt (Mem.le_add hf _) cL
 refine Zav (ZgD [((307,171,[.pointer (some ⟨b5,0,none⟩),.pointer (some ⟨b3,0,none⟩),.pointer (some ⟨b2,0,none⟩)]),Zt6 l i p),((308,173,[.pointer (some ⟨b,0,none⟩),.pointer (some ⟨b5,0,none⟩)]),ZrK s p),
  ((309,174,[.pointer (some ⟨b5,0,none⟩),.pointer (some ⟨b1,0,none⟩)]),ZoF r p)] _ 3 _ (by simp) (.inr ⟨b6,0,rfl,(Zb6 m4 b6 _).mono cL⟩) λx hx m' hm'=>?_) λm6 fR=>Zac (mLt ib (mLt um fR)) rfl
 have hl:=mLt um hm'
 have h0':=mLt ib hl
 have hp:=(cG p (zA2 hi)).mono h0'
 simp only[List.mem_cons,List.not_mem_nil,or_false]at hx
 rcases hx with rfl|rfl|rfl
 ·exact ZyI l a c i p m' b5 b3 b2 (by unfold few;omega) (aN.mono h0') (by omega) hp (sM.mono hm') (eY.mono hl) (eR.mono (mLt bP hl))
 ·exact ZyJ s p m' b b5 (hs.mono h0') hp (hb.mono (mLt jz hl)) (sM.mono hm')
 ·exact ZyK r p m' b5 b1 (hr.mono h0') hp (sM.mono hm') (cR.mono (mLt om hl))
end Go.Proofs.YtojlhhphofhaoaaGreatDoor