/- Part of the proof: conditions and contracts of functions of this program. No condition of its own. -/
import Derived.Test.YthiefodednaikaaPC13TD
import Derived.Test.YthiefodednaikaaPVRV
import Derived.Test.YthiefodednaikaaMr
import Derived.Test.YthiefodednaikaaMc
set_option linter.unusedVariables false
set_option linter.unusedSimpArgs false
set_option linter.unusedSectionVars false
namespace Go.Proofs.Ythiefodednaikaa
open Go Go.Eng Go.Rx Go.Proofs Go.RowKit
set_option maxRecDepth 100000
def ZwT(e:Int)(l:List Nat)(m:Mem):RT:=λv m' _=>∃a c,v=.tuple #[.slice a l.length c,.int .i64 e]/\rowRd m' a (Zcq l)/\∀b o,a=some ⟨b,o,none⟩->m.free b
theorem Zg1{e l m}:∀(v:Value)(m':Mem) (css:List (List Value)),ZwT e l m v m' css->Shape.fits (.tup [.slice,.int .i64]) v=true:=λv _ _ ⟨a,c,h,_⟩=>by rw[h];rfl
theorem ZrW(t:T)(a:Option Addr)(s:List Nat)(c:Nat)(i:Int)(back:Bool)(m:Mem)(hr:Rep m t)(hb:t.wrong s.length i=0->Byt m a s):CX Try.prog 47 #[t.v,.slice a s.length c,.int .i64 i,.bool back] m [] (ZwT (t.wrong s.length i) (T.list t s i back) m):=by
 apply ZhS
 unfold ZeA
 intro b m1 aW _ _ _
 refine ZaC (ZgV t a s.length c i m1 (hr.mono aW)) λm2 aY=>Zab (λh=>?_) (λh b1=>?_)
 ·have h':¬t.wrong s.length i=0:=by simpa using h
  refine Zac (mLt aW aY) ⟨none,0,?_,.inl ?_,λb o e=>by cases e⟩ <;> unfold T.list <;> rw[if_neg h'] <;> rfl
 ·have h':t.wrong s.length i=0:=by simpa using h
  obtain⟨hw,hs,j6,eO⟩:=Zew h'
  obtain⟨n,rfl⟩:∃n:Nat,i=n:=⟨i.toNat,by omega⟩
  have cT:m.le m2:=mLt aW aY
  have iy:(2:Nat) ^ n < Zcn:=Zru (by omega)
  refine⟨λj _ _=>if j=5 then Ret (plV (2 ^ n))else Ret (plV (t.lead s back (2 ^ n))),Ret (plV (2 ^ n)),rfl,Zt6 n (by omega) m2,Zba,Zmc λm3 bN=>⟨Ret (plV (t.lead s back (2 ^ n))),rfl,ZmV a s c back hs t hw (2 ^ n) m3 iy (hr.mono (mLt cT bN)) ((hb h').mono (mLt cT bN)),Zba,Zmc λm4 cE b2 M cR fV dM m5 cN dS=>Zal (Zu5 (t.lead s back (2 ^ n)) b2 m5 dS) (λv _ _ ⟨c,e,_⟩=>by rw[e];rfl) ?_⟩⟩
  rintro g fi ca m6 dA ⟨cb,hv,lG⟩
  simp only[Value.func.injEq,Fn.func.injEq,Array.mk.injEq]at hv
  obtain⟨rfl,rfl,rfl⟩:=hv
  have iz:m.le m6:=mLt cT (mLt cR (mLt cN dA))
  have hL:T.list t s (n:Int) back=ZbR (t.lead s back (2 ^ n)):=by unfold T.list;rw[if_pos h'];rfl
  rw[hL,h']
  generalize hX:ZbR (t.lead s back (2 ^ n))=X
  have uE:X.length<=513:=by rw[<-hX];exact Zn3 _
  refine⟨m6,Mem.le_refl _,X.map λi=>[.int .i64 (i:Nat)],?_,?_,?_⟩
  ·rw[<-hX];exact ZrN _ b2 cb m6 (dS.mono dA) lG
  ·intro x hx
   obtain⟨y,_,rfl⟩:=List.mem_map.1 hx
   rfl
  refine⟨λxs css tvs m' q=>∃a' c',css=[[.slice a' q c']]/\tvs=[.slice a' q c']/\rowRd m' a' (Zcq (X.take q))/\∀b o,a'=some ⟨b,o,none⟩->m.free b,⟨none,0,rfl,rfl,.inl rfl,λb o e=>by cases e⟩,?_,?_⟩
  ·rintro z cs a1 n1 c1 m7 q dN hq ⟨a',c',cV,iW,bU,eZ⟩
   obtain rfl:cs=[.slice a' q c']:=by simpa using cV
   obtain⟨rfl,rfl,rfl⟩:a1=a'/\n1=q/\c1=c':=by simpa using iW
   have hq':(X.map λi=>[Value.int .i64 (i:Nat)])[(n1:Nat)]?=some [.int .i64 z]:=hq
   rw[List.getElem?_map]at hq'
   obtain⟨y,hy,hz⟩:=Option.map_eq_some_iff.1 hq'
   obtain rfl:z=y:=(Zrn hz).symm
   have bB:=(List.getElem?_eq_some_iff.1 hy).1
   refine Zah rfl λb3 bT=>Zaa rfl ⟨.inl rfl,Zcq (X.take n1),[.int .i64 y],?_,rfl,bU.mono (Mem.le_add bT _),.inr ⟨b3,0,rfl,?_⟩,?_,?_,?_,?_⟩
   ·simp[Zcq,slN];omega
   ·intro j v hj;rw[Nat.zero_add,Mem.add_same];exact hj
   ·intro u hu;obtain rfl:u=.int .i64 y:=by simpa using hu
    rfl
   ·simp only[slN];omega
   ·simp only[slN];omega
   ·intro a2 c2 m8 jJ hH kS
    have h8:=mLt dN (Mem.le_add bT [Value.int .i64 y])
    refine⟨mLt h8 jJ,by trivial,a2,c2,rfl,rfl,?_,λb9 o9 e9=>?_⟩
    ·rw[<-ZmW hy];exact hH
    ·rcases kS.2 with h|⟨b8,o8,e8,h⟩
     ·rw[h]at e9;cases e9
     ·rw[e8]at e9;cases e9
      rcases h with h|⟨_,h⟩
      ·exact eZ _ _ (h.trans e8)
      ·exact Zdj (mLt iz h8) h
  ·rintro cs a1 n1 c1 m7 dN ⟨a',c',cV,iW,bU,eZ⟩
   rw[List.length_map]at cV iW bU
   obtain rfl:cs=[.slice a' X.length c']:=by simpa using cV
   rw[List.take_length]at bU
   exact Zah rfl ⟨m7,mLt iz dN,Mem.le_refl _,a',c',rfl,bU,eZ⟩
theorem Zvr(t:T)(a:Option Addr)(s:List Nat)(c:Nat)(i:Int)(m:Mem)(hr:Rep m t)(hb:t.wrong s.length i=0->Byt m a s):CX Try.prog 14 #[t.v,.slice a s.length c,.int .i64 i] m [] (ZwT (t.wrong s.length i) (T.list t s i false) m):=by
 apply Zgl
 unfold ZdZ
 intro b m1 aW _
 refine Zal (ZrW t a s c i false m1 (hr.mono aW) (λh=>(hb h).mono aW)) Zg1 ?_
 rintro a1 n1 c1 e1 m2 aY ⟨a',c',e,h,hn⟩
 exact⟨m2,mLt aW aY,Mem.le_refl _,a',c',e,h,λb o h=>Zdj aW (hn b o h)⟩
theorem ZqT(t:T)(a:Option Addr)(s:List Nat)(c:Nat)(i:Int)(m:Mem)(hr:Rep m t)(hb:t.wrong s.length i=0->Byt m a s):CX Try.prog 15 #[t.v,.slice a s.length c,.int .i64 i] m [] (ZwT (t.wrong s.length i) (T.list t s i true) m):=by
 apply Zey
 unfold ZcO
 intro b m1 aW _
 refine Zal (ZrW t a s c i true m1 (hr.mono aW) (λh=>(hb h).mono aW)) Zg1 ?_
 rintro a1 n1 c1 e1 m2 aY ⟨a',c',e,h,hn⟩
 exact⟨m2,mLt aW aY,Mem.le_refl _,a',c',e,h,λb o h=>Zdj aW (hn b o h)⟩
def Zyk(l:List Nat):RT:=λv m' _=>∃a c,v=.slice a l.length c/\Byt m' a l
theorem Zm3{l:List Nat}:∀(v:Value)(m':Mem) (css:List (List Value)),Zyk l v m' css->Shape.fits .slice v=true:=λv _ _ ⟨a,c,h,_⟩=>by rw[h];rfl
theorem ZrX{m:Mem}{a:Option Addr}{L:List Nat}(h:Byt m a L):rowRd m a (L.map λc:Nat=>Value.int .u8 c):=by
 rcases h.1 with h|h
 ·exact .inl (by rw[h];rfl)
 ·exact .inr h
theorem Zm4(bs:List Nat)(a:Option Addr)(c:Nat)(m:Mem)(h:Byt m a bs)(hl:bs.length<=100000):CX Try.prog 57 #[.slice a bs.length c] m [] (Zyk bs):=by
 have bU:=ZrX h
 refine CXT.toCX (esz:=1) ?_
 apply ZcE
 unfold ZbQ
 refine Zab (λhz=>?_) (λhz=>⟨⟨rfl,Int.le_refl _,by decide,by decide⟩,λb hb=>⟨.inl rfl,[],bs.map λc:Nat=>Value.int .u8 c,rfl,by rw[List.length_map];omega,.inl rfl,bU,λu hu=>?_,by omega,by omega,λa' c' m' hm' hr kS=>⟨rfl,a',c',by rw[Nat.zero_add],?_,h.2⟩⟩⟩)
 ·have qH:bs=[]:=by
   rcases h.1 with h1|⟨b,o,h1,_⟩
   ·exact h1
   ·rw[h1]at hz;simp at hz
  subst qH
  exact⟨rfl,none,0,rfl,.inl rfl,by simp⟩
 ·obtain⟨i,_,rfl⟩:=List.mem_map.1 hu
  rfl
 ·rcases hr with hr|hr
  ·left
   have:=congrArg List.length hr
   simp at this;exact this
  ·exact .inr hr
def mkB(l:List Nat):ByteArray:=⟨(l.map UInt8.ofNat).toArray⟩
theorem ZqU{l:List Nat}(h:∀c∈l,c < 256):Zdo (mkB l)=l:=by
 unfold Zdo mkB
 simp only[List.map_map]
 have:l.map ((λb:UInt8=>b.toNat)∘UInt8.ofNat)=l.map id:=by
  refine List.map_congr_left λc hc=>?_
  have:=h c hc
  simp[UInt8.toNat_ofNat',Nat.mod_eq_of_lt this]
 rw[this,List.map_id]
theorem Zm5(bs:List Nat)(a b:Option Addr)(c d:Nat)(m:Mem)(hl:Byt m a bs)(hr:Byt m b bs):CX Try.prog 62 #[.slice a bs.length c,.slice b bs.length d] m [] (Ret (.bool true)):=by
 apply Zj1
 unfold Zgu
 have e:=ZqU hl.2
 have hs:(mkB bs).size=bs.length:=by rw[<-ZmZ,e]
 refine⟨mkB bs,hs,by rw[ZhA,e];exact ZrX hl,mkB bs,hs,by rw[ZhA,e];exact ZrX hr,Zac (Mem.le_refl _) ?_⟩
 simp
theorem Zvs(l:List Nat)(a:Option Addr)(c x:Nat)(m:Mem)(h:rowRd m a (Zcq l))(hl:l.length<=1000000000000000):CX Try.prog 70 #[.slice a l.length c,.int .i64 x] m [] (λv _ _=>∃z:Int,v=.int .i64 z/\(z ≥ 0↔x∈l)):=by
 apply Zdq
 unfold Zb7
 refine⟨λxs css _ m' q=>∃k:Nat,k<=l.length/\xs=[.int .i64 k]/\x ∉ l.take k/\q=l.length - k,⟨_,0,by omega,rfl,by simp,rfl⟩,?_⟩
 rintro z m1 q aW ⟨k,hk,hz,fK,hq⟩
 obtain rfl:z=k:=by simpa using hz
 refine Zab (λbB=>?_) (λcK=>⟨m1,aW,Mem.le_refl _,_,rfl,?_⟩)
 ·have aX:k < l.length:=by have:=of_decide_eq_true bB;omega
  obtain⟨u,hu⟩:=Zbx aX
  have gL:IntKind.i64.wrap ((k:Int)+1)=((k+1:Nat):Int):=by rw[Zao (by omega) (by omega)];rfl
  rcases h.mono aW with h|⟨b,o,h1,h2⟩
  ·rw[show l=[] by simpa[Zcq]using h]at hu;simp at hu
  simp only[gL,Int.toNat_natCast,Nat.mul_one]
  refine⟨b,o,h1,⟨by omega,by omega⟩,_,h2 k (.int .i64 u) (by rw[Zcq,List.getElem?_map,hu];rfl),Zaa rfl (Zab (λhc=>⟨m1,aW,Mem.le_refl _,_,rfl,?_⟩) (λhc=>⟨l.length - (k+1),by omega,k+1,by omega,rfl,?_,rfl⟩))⟩
  ·have:x=u:=by simp[RowKit.intOf]at hc;omega
   subst this
   exact⟨λ_=>List.mem_of_getElem? hu,λ_=>by omega⟩
  ·rw[Ziu hu,List.mem_append]
   rintro(h|h)
   ·exact fK h
   ·simp at h;subst h;simp[RowKit.intOf]at hc
 ·have:k=l.length:=by have:=of_decide_eq_false cK;omega
  subst this
  rw[List.take_length]at fK
  exact⟨λh=>by omega,λh=>absurd h fK⟩
theorem ZpP(l:List Nat)(a:Option Addr)(c x:Nat)(m:Mem)(h:rowRd m a (Zcq l))(hl:l.length<=1000000000000000):CX Try.prog 29 #[.slice a l.length c,.int .i64 x] m [] (Ret (.bool (decide (x∈l)))):=by
 apply ZcF
 unfold Zbz
 refine Zal (Zvs l a c x m h hl) (λv _ _ ⟨z,e,_⟩=>by rw[e];rfl) ?_
 rintro z m1 aW ⟨z',hz,hx⟩
 cases hz
 exact Zac aW (by unfold Ret;congr 1;exact decide_eq_decide.2 hx)
theorem Zjy{t:T}(h:t.walks):t.good=true\/t.k=0:=h.elim .inr λh=>.inl (List.all_eq_true.2 h)
theorem ZwU{t:T}(h:t.k=0)(s:List Nat)(i j:Nat):¬t.M s i j:=by cases t;simp only[T.k]at h;subst h;simp[T.M]
theorem Zl6{g:Nat->Bool}{n x:Nat}:x∈ZkU g n↔x < n/\g x=true:=by unfold ZkU;simp
theorem ZpQ(g:Nat->Bool)(n:Nat):(ZkU g n).Pairwise (· < ·):=List.Pairwise.filter _ List.pairwise_lt_range
theorem Zuf{t:T}{s:List Nat}{i:Int}(h:¬t.wrong s.length i=0)(back:Bool):T.list t s i back=[]:=by unfold T.list;rw[if_neg h]
theorem ZwV{t:T}{s:List Nat}{i:Nat}(h:t.wrong s.length i=0):T.list t s i false=ZxQ (t.M s) (s.length+1) i:=by
 obtain⟨hw,hs,_,hi⟩:=Zew h
 have e:T.list t s i false=ZtY t s i:=by unfold T.list;rw[if_pos h];rfl
 rw[e]
 rcases Zjy hw with hg|hk
 ·refine Ze7 _ _ (Zpl _) (ZpQ _ _) λx=>?_
  unfold ZxQ
  rw[ZuR hg hs (by omega),Zl6,Zap]
  exact⟨λh=>⟨by have:=Zyh hg h (by omega);omega,h⟩,λh=>h.2⟩
 ·refine Ze7 _ _ (Zpl _) (ZpQ _ _) λx=>?_
  unfold ZxQ ZtY
  rw[Zju,Zl6,Zap,ZuH hk]
  simp[ZwU hk]
theorem ZxR{t:T}{s:List Nat}{i:Nat}(h:t.wrong s.length i=0):T.list t s i true=Zyt (t.M s) (s.length+1) i:=by
 obtain⟨hw,hs,_,hi⟩:=Zew h
 have e:T.list t s i true=Zws t s i:=by unfold T.list;rw[if_pos h];rfl
 rw[e]
 rcases Zjy hw with hg|hk
 ·refine Ze7 _ _ (Zpl _) (ZpQ _ _) λx=>?_
  unfold Zyt
  rw[ZuS hg hs (by omega),Zl6,Zap]
  exact⟨λh=>⟨by have:=Zyr hg h;omega,h⟩,λh=>h.2⟩
 ·refine Ze7 _ _ (Zpl _) (ZpQ _ _) λx=>?_
  unfold Zyt Zws
  rw[Zju,Zl6,Zap,ZuH hk]
  simp[ZwU hk]
theorem Ztr{t:T}{s:List Nat}(h:t.wrong s.length 0=0):T.matches t s=decide (s.length∈ZxQ (t.M s) (s.length+1) 0):=by
 obtain⟨hw,hs,_,hi⟩:=Zew h
 have h0:t.wrong s.length ((0:Nat):Int)=0:=h
 rw[<-ZwV h0]
 have e:T.list t s ((0:Nat):Int) false=ZtY t s 0:=by unfold T.list;rw[if_pos h0];rfl
 unfold T.matches
 rw[h,e,Bool.eq_iff_iff]
 unfold ZtY
 rw[decide_eq_true_eq,Zju]
 simp
 intro _;omega
theorem ZqV{t:T}{s:List Nat}(h:¬t.wrong s.length 0=0):T.matches t s=false:=by
 unfold T.matches
 rw[show(t.wrong s.length 0 == 0)=false by simpa using h];rfl
theorem ZwW{m:Mem}{r:Rg}{cs:List Value}(h:RgR m r cs){K:Value->Prop}(k:K (.bool r.bg)):Eng.Zty cs 0 K:=by
 obtain⟨ds,rfl,_⟩:=h
 exact Zah rfl k
theorem ZwX{m:Mem}{r:Rg}{cs:List Value}(h:RgR m r cs){K:Value->Prop}(k:K (.bool r.en)):Eng.Zty cs 1 K:=by
 obtain⟨ds,rfl,_⟩:=h
 exact Zah rfl k
theorem Zi8{r:Rg}{cs:List Value}{m:Mem}(hr:RgR m r cs){g:Nat->Nat->Bool}{n:Nat}{a1:Option Addr}{c1:Nat}{bs:Nat->Nat}(dG:Tab m g n n a1 bs)(hn:n<=1000000){i:Nat}(hi:i < n):
  CX Try.prog 86 #[.agg cs.toArray,.slice a1 n c1,.int .i64 i] m [] (λv _ _=>∃z,v=.int .i64 z/\ZyN r.bg r.en g n i z):=by
 apply Zf1
 unfold Zdp
 have hw:IntKind.i64.wrap ((n:Int) - 1)=(n:Int) - 1:=Zao (by omega) (by omega)
 rw[hw]
 refine Zaa (by rw[hr.len];rfl) λb m1 aW _=>⟨r.en&&decide (i+1 < n),ZwX hr ⟨r.en,rfl,Zab (λh=>⟨by trivial,?_⟩) (λh=>⟨by trivial,?_⟩)⟩,Zab (λh=>?_) (λh=>?_)⟩
 ·rw[h,Bool.true_and]
  have:decide ((i:Int) < (n:Int) - 1)=decide (i+1 < n):=decide_eq_decide.2 (by omega)
  rw[this]
 ·rw[h,Bool.false_and]
 ·exact⟨m1,aW,Mem.le_refl _,_,rfl,.inl ⟨rfl,.inl (by simpa using h)⟩⟩
 ·have fK:¬(r.en=true/\i+1 < n):=λhc=>by rw[hc.1,decide_eq_true hc.2]at h;cases h
  refine⟨λxs _ _ m' q=>∃k:Nat,k<=i+1/\xs=[.int .i64 k]/\(∀j,j < k->ZwG r.bg g i j=false)/\q=i+1 - k,⟨_,0,Nat.zero_le _,rfl,λj h=>by omega,rfl⟩,?_⟩
  rintro z m2 q aY ⟨k,hk,hz,bR,hq⟩
  obtain rfl:z=k:=by simpa using hz
  subst hq
  have im:=mLt aW aY
  refine ZaG (λcL=>?_) (λjK=>⟨m2,im,Mem.le_refl _,_,rfl,.inl ⟨rfl,.inr λj hj=>bR j (by omega)⟩⟩)
  have jN:k<=i:=by omega
  obtain⟨b6,o6,e6,h6⟩:=(dG.mono im).get (i:=k) (by omega)
  have h7:=(dG.mono im).cell (i:=k) (j:=i) (by omega) hi
  rw[Int.toNat_natCast,Int.toNat_natCast]
  refine⟨ZwG r.bg g i k,⟨b6,o6,e6,⟨by omega,by omega⟩,_,h6,Zaa rfl ⟨bs k,0,rfl,⟨by omega,by simp only[slN];omega⟩,_,h7,Zaa rfl (Zab (λhv=>ZcG (λh0=>⟨by trivial,?_⟩) (λh0=>ZwW hr ⟨r.bg,rfl,by trivial,?_⟩)) (λhv=>⟨by trivial,?_⟩))⟩⟩,Zab (λhb=>⟨m2,im,Mem.le_refl _,_,rfl,.inr ⟨k,rfl,jN,fK,hb,bR⟩⟩) (λhb=>⟨by trivial,_,by omega,k+1,by omega,by rw[Zao (by omega) (by omega)];rfl,λj hj=>?_,rfl⟩)⟩
  ·rw[Zf6]at hv
   have:k=0:=by omega
   subst this
   unfold ZwG
   rw[hv];rfl
  ·rw[Zf6]at hv
   have:(k == 0)=false:=by simpa using(λe:k=0=>h0 (by omega))
   unfold ZwG
   rw[hv,this];rfl
  ·rw[Zf6]at hv
   unfold ZwG
   rw[hv];rfl
  ·by_cases e:j=k
   ·subst e;exact hb
   ·exact bR j (by omega)
theorem Zl7{r:Rg}{cs:List Value}{m:Mem}(hr:RgR m r cs)(sa:Option Addr)(n sc:Nat)(i:Int):CX Try.prog 58 #[.agg cs.toArray,.slice sa n sc,.int .i64 i] m [] (Ret (.int .i64 (Rg.wrong r n i))):=by
 have hl:=hr.len
 apply Zfx
 unfold ZcX
 refine Zaa (by rw[hl];rfl) λb m1 aW _=>Zaa (by rw[hl];rfl) ?_
 refine ZaC (Zl4 r.t _ m1 (hr.root.mono aW)) λm2 aY=>Zab (λh=>Zac (mLt aW aY) ?_) (λh=>Zaa (by rw[hl];rfl) ?_)
 ·have:¬r.t.check=0:=by simpa using h
  unfold Rg.wrong;rw[if_neg this]
 ·have:r.t.check=0:=by simpa using h
  refine ZaC (Zdt r.t _ sa n sc i m2 ((hr.root.mono aW).mono aY)) λm3 bN=>Zac (mLt aW (mLt aY bN)) ?_
  unfold Rg.wrong;rw[if_pos this]
theorem ZqW{r:Rg}{cs:List Value}{m:Mem}(hr:RgR m r cs)(hg:r.t.good=true)(s:List Nat)(sa:Option Addr)(sc:Nat)(hs:s.length<=512)(hb:Byt m sa s){n:Nat}(hn:n<=s.length):
  CX Try.prog 59 #[.agg cs.toArray,.slice sa s.length sc,.int .i64 n] m [] (Ret (.int .i64 (Zs8 (r.from s n)))):=by
 have hl:=hr.len
 apply ZlK
 unfold ZhB
 refine Zaa (by rw[hl];rfl) λb m1 aW _=>⟨λj _ mm=>if j=4 then Zm1 mm (Zh1 (r.t.M s)) (s.length+1)else(λv _ _=>∃z,v=.int .i64 z/\ZyN r.bg r.en (Zh1 (r.t.M s)) (s.length+1) n z),Zaa (by rw[hl];rfl) ⟨Zm1 m1 (Zh1 (r.t.M s)) (s.length+1),rfl,Zoe s sa sc (by omega) r.t _ m1 (hr.root.mono aW) hg (hb.mono aW),(λv _ _ ⟨_,_,_,e,_⟩=>by rw[e];rfl),?_⟩⟩
 rintro a n' c m2 aY ⟨a',c',bs,e,dG,_⟩
 simp only[Value.slice.injEq]at e
 obtain⟨rfl,rfl,rfl⟩:=e
 refine⟨_,rfl,Zi8 (hr.mono (mLt aW aY)) dG (by omega) (i:=n) (by omega),(λv _ _ ⟨z,e,_⟩=>by rw[e];rfl),?_⟩
 rintro z m3 bN ⟨z',e,hz⟩ M cR cT fV
 simp only[Value.int.injEq,true_and]at e
 subst e
 exact Zac (mLt aW cR) (by rw[Zps hg hs hn hz])
theorem ZxS(x y:Value)(cs:List Value)(h:cs.length=260):Zam (Zam (Zam Zat 0 [x]) 1 [y]) 2 cs=x::y::cs:=by
 have e:Zam (Zam Zat 0 [x]) 1 [y]=x::y::Zat.drop 2:=rfl
 have hl:(Zat.drop 2).length=260:=rfl
 rw[e]
 unfold Zam
 have hd:List.drop (2+cs.length) (x::y::Zat.drop 2)=[]:=List.drop_eq_nil_of_le (by rw[List.length_cons,List.length_cons,hl,h];omega)
 rw[hd]
 show([x,y]++cs)++[]=_
 rw[List.append_nil];rfl
theorem ZxT(x:Value):(Zam Zat 0 [x]).length=262:=rfl
theorem ZxU(x y:Value):(Zam (Zam Zat 0 [x]) 1 [y]).length=262:=rfl
def Zyl(l:List Rg):RT:=λv m' _=>∃a c css,v=.slice a l.length c/\RgsR m' a l css
theorem Zvt{l:List Rg}:∀(v:Value)(m':Mem) (css:List (List Value)),Zyl l v m' css->Shape.fits .slice v=true:=λv _ _ ⟨a,c,_,h,_⟩=>by rw[h];rfl
set_option maxHeartbeats 1600000 in
theorem ZpR(l:List Rg)(al:Option Addr)(cl:Nat)(m:Mem)(hl:Rgs m al l)(hn:l.length<=1000)(bW:∀r∈l,r.t.nodes.length<=1000000):CX Try.prog 56 #[.slice al l.length cl] m [] (Zyl l):=by
 apply ZiU
 unfold Zfz
 refine⟨λxs _ tvs m' q=>∃(k:Nat)(a:Option Addr)(c:Nat) (css:List (List Value)),k<=l.length/\xs=[.slice a k c,.int .i64 k]/\tvs=[.slice a k c]/\RgsR m' a (l.take k) css/\q=l.length - k,
  ⟨_,0,none,0,[],Nat.zero_le _,rfl,rfl,⟨rfl,λi cs h=>by simp at h,.inl rfl⟩,rfl⟩,?_⟩
 rintro a n1 c z a1 n2 c1 m2 q aY ⟨k,a',c',css,hk,hz,ht,hR,hq⟩
 simp only[List.cons.injEq,Value.slice.injEq,Value.int.injEq,true_and,and_true]at hz ht
 obtain⟨⟨rfl,rfl,rfl⟩,rfl⟩:=hz
 obtain⟨rfl,rfl,rfl⟩:=ht
 subst hq
 refine ZaG (λbB=>?_) (λcK=>?_)
 ·have aX:n2 < l.length:=by omega
  obtain⟨r,hr⟩:=Zbx aX
  have cD:=List.mem_of_getElem? hr
  have gp:=hl.mono aY
  rcases gp.2.1 with e|⟨b,o,ha,cJ⟩
  ·rw[e]at aX;simp at aX
  have ru:=cJ n2 r hr
  rw[Int.toNat_natCast]
  refine⟨b,o,ha,⟨by omega,by omega⟩,.bool r.bg,.bool r.en,.int .u8 r.t.k,.int .u64 r.t.s0,.int .u64 r.t.s1,.int .u64 r.t.s2,.int .u64 r.t.s3,.int .i64 r.t.mn,.int .i64 r.t.mx,.slice r.t.a r.t.subs.length r.t.c,ru,λb3=>Zaa rfl ⟨λ_ _ _=>(λv m' _=>∃cs:List Value,v=.agg cs.toArray/\RefT m' r.t cs),_,rfl,ZpM r.t m2 (gp.2.2 r cD) (bW r cD),λv _ _ ⟨_,h,_⟩=>by rw[h];rfl,?_⟩⟩
  rintro cs m3 bN ⟨cs',hv,fH⟩
  simp only[Value.agg.injEq,Array.mk.injEq]at hv
  subst hv
  have iC:=fH.len
  refine Zaa rfl (Zaa (by show(true&&Nat.ble 2 (Zam Zat 0 [Value.bool r.bg]).length)=true;rw[ZxT];rfl) (Zaa (by rw[iC];show(true&&Nat.ble 262 (Zam (Zam Zat 0 [Value.bool r.bg]) 1 [Value.bool r.en]).length)=true;rw[ZxU];rfl) ?_))
  generalize hX:Zam (Zam (Zam Zat 0 _) 1 _) 2 cs=X
  obtain rfl:X=.bool r.bg::.bool r.en::cs:=by rw[<-hX];exact ZxS _ _ _ iC
  have sS:∀M,m3.le M->RgR M r (.bool r.bg::.bool r.en::cs):=λM hM=>⟨cs,rfl,fH.mono hM⟩
  refine Zaa (by simp[iC]) λb5 nT=>?_
  have ia:=Mem.le_add nT (List.append (Value.bool r.bg::Value.bool r.en::cs) [])
  have dW:rowRd (m3.add b5 (List.append (Value.bool r.bg::Value.bool r.en::cs) [])) (some ⟨b5,0,none⟩) (Value.bool r.bg::Value.bool r.en::cs):=.inr ⟨b5,0,rfl,λj u hj=>by rw[Nat.zero_add,Mem.add_same];show((Value.bool r.bg::Value.bool r.en::cs)++[])[j]?=_;rw[List.append_nil];exact hj⟩
  have mE:=Zpt hR.sizes
  have sT:=hR.len
  rw[List.length_take,Nat.min_eq_left (by omega)]at sT
  refine⟨.inl (by trivial),css.flatten,Value.bool r.bg::Value.bool r.en::cs,by rw[mE,sT],by simp[iC],(hR.row.mono bN).mono ia,dW,(sS m3 (Mem.le_refl _)).one,by omega,by omega,λa7 c7 m7 dN jM M2 nU pf sN lV=>⟨l.length - (n2+1),by omega,n2+1,a7,c7,css++[Value.bool r.bg::Value.bool r.en::cs],by omega,?_,rfl,?_,rfl⟩⟩
  ·rw[Zao (by omega) (by omega)];rfl
  ·have e:l.take (n2+1)=l.take n2++[r]:=by rw[List.take_add_one,hr];rfl
   rw[e]
   exact(hR.mono nU).snoc (sS M2 pf) (jM.mono lV)
 ·have:n2=l.length:=by omega
  subst this
  rw[List.take_length]at hR
  exact⟨m2,aY,Mem.le_refl _,_,_,css,rfl,hR⟩
theorem Zm6{m:Mem}{b p:Nat}{cs:List Value}(h:m.reads b p cs):m.reads b (p+2) ((cs.drop 2).take 260):=λj v hj=>by
 have h2:(cs.drop 2)[j]?=some v:=by
  rw[List.getElem?_take]at hj
  split at hj
  ·exact hj
  ·cases hj
 rw[List.getElem?_drop]at h2
 rw[Nat.add_assoc]
 exact h _ v h2
theorem ZrY{m:Mem}{r:Rg}{cs:List Value}(h:RgR m r cs):((cs.drop 2).take 260).length=260:=by rw[h.root.len]
theorem ZxV(m:Mem):RefT m T1 (rcs 1 (0,0,0,0) 0 0 none 0 0):=Zb5.2 ⟨⟨⟨by decide,by decide⟩,⟨by decide,by decide⟩,⟨by decide,by decide⟩,⟨by decide,by decide⟩,⟨by decide,by decide⟩,⟨by decide,by decide⟩,⟨by decide,by decide⟩⟩,by decide,none,0,[],rfl,.inl rfl,by simp only[T1,T.subs,RefAt],Nat.le_refl _⟩
theorem ZhI(l:List Rg)(al:Option Addr)(cl:Nat)(css:List (List Value))(sa:Option Addr)(n sc:Nat)(i:Int)(m:Mem)(hl:RgsR m al l css)(hn:l.length<=1000):CX Try.prog 60 #[.slice al l.length cl,.slice sa n sc,.int .i64 i] m [] (Ret (.int .i64 (Za7 l n i))):=by
 apply Zfy
 unfold ZcY
 refine ZaG (λh=>Zac (Mem.le_refl _) ?_) (λgT=>?_)
 ·unfold Za7;rw[if_pos h]
 refine⟨λxs _ _ m' q=>∃k:Nat,k<=l.length/\xs=[.int .i64 k]/\(l.take k).all (λr=>r.t.check == 0)=true/\m.le m'/\q=l.length - k,⟨_,0,Nat.zero_le _,rfl,rfl,Mem.le_refl _,rfl⟩,?_⟩
 rintro z m1 q _ ⟨k,hk,hz,bR,aW,hq⟩
 obtain rfl:z=k:=by simpa using hz
 subst hq
 refine ZaG (λbB=>?_) (λcK=>?_)
 ·have aX:k < l.length:=by omega
  obtain⟨r,hr⟩:=Zbx aX
  obtain⟨b,o,cs,ha,cJ,hR⟩:=(hl.mono aW).get hr
  rw[Int.toNat_natCast]
  refine⟨b,o,ha,⟨by omega,by omega⟩,_,ZrY hR,Zm6 cJ,ZaC (Zl4 r.t _ m1 hR.root) λm2 aY=>Zab (λhc=>Zac (mLt aW aY) ?_) (λhc=>⟨l.length - (k+1),by omega,k+1,by omega,by rw[Zao (by omega) (by omega)];rfl,?_,mLt aW aY,rfl⟩)⟩
  ·unfold Za7
   rw[if_neg gT,if_neg]
   intro hU
   rw[List.all_eq_true]at hU
   have:=hU r (List.mem_of_getElem? hr)
   rw[this]at hc;cases hc
  ·rw[List.take_add_one,hr,Option.toList_some,List.all_append,bR]
   have:(r.t.check == 0)=true:=by rw[<-Bool.not_not (_ == _),hc];rfl
   simp[this]
 ·have:k=l.length:=by omega
  subst this
  rw[List.take_length]at bR
  have hz:(Value.int .i64 1::(List.replicate 256 (Value.int .i64 0)++[.int .i64 0,.int .i64 0,.slice none 0 0]))=rcs 1 (0,0,0,0) 0 0 none 0 0:=by rw[Zoc];rfl
  have hc:=Zdt T1 _ sa n sc i m1 (ZxV m1)
  rw[<-hz]at hc
  refine ZaC hc λm2 aY=>Zac (mLt aW aY) ?_
  unfold Za7
  rw[if_neg gT,if_pos bR]
def Zy6:Option (Nat×Nat×Nat)->Value
 | some (k,i,n)=>.tuple #[.int .i64 k,.int .i64 i,.int .i64 n]
 | none=>.tuple #[.int .i64 (-1),.int .i64 (-1),.int .i64 (-1)]
def TabsR(m:Mem)(s:List Nat)(l:List Rg)(vs:List Value):Prop:=vs.length=l.length/\∀(i:Nat)(r:Rg),l[i]?=some r->∃a c bs,vs[i]?=some (.slice a (s.length+1) c)/\Tab m (Zh1 (r.t.M s)) (s.length+1) (s.length+1) a bs
theorem TabsR.mono{m m':Mem}{s:List Nat}{l:List Rg}{vs:List Value}(h:TabsR m s l vs)(hm:m.le m'):TabsR m' s l vs:=⟨h.1,λi r hi=>by obtain⟨a,c,bs,h1,h2⟩:=h.2 i r hi;exact⟨a,c,bs,h1,h2.mono hm⟩⟩
set_option maxHeartbeats 1600000 in
theorem Zm7(l:List Rg)(al:Option Addr)(cl:Nat)(css:List (List Value))(s:List Nat)(sa:Option Addr)(sc:Nat)(lo hi:Nat)(m:Mem)(hl:RgsR m al l css)(hn:l.length<=1000)(hg:∀r∈l,r.t.good=true)(hb:Byt m sa s)(hs:s.length<=512)(wi:hi<=s.length)(md:lo<=hi+1):
  CX Try.prog 61 #[.slice al l.length cl,.slice sa s.length sc,.int .i64 lo,.int .i64 hi] m [] (Ret (Zy6 (Zc6 l s (hi+1 - lo) lo))):=by
 apply ZhR
 unfold Zez
 refine⟨λxs _ tvs m' q=>∃(k:Nat)(a:Option Addr)(c:Nat)(vs:List Value),k<=l.length/\xs=[.slice a k c,.int .i64 k]/\tvs=[.slice a k c]/\rowRd m' a vs/\TabsR m' s (l.take k) vs/\q=l.length - k,
  ⟨_,0,none,0,[],Nat.zero_le _,rfl,rfl,.inl rfl,⟨rfl,λi r h=>by simp at h⟩,rfl⟩,?_⟩
 rintro a n1 c z a1 n2 c1 m2 q aY ⟨k,a',c',vs,hk,hz,ht,bU,hT,hq⟩
 simp only[List.cons.injEq,Value.slice.injEq,Value.int.injEq,true_and,and_true]at hz ht
 obtain⟨⟨rfl,rfl,rfl⟩,rfl⟩:=hz
 obtain⟨rfl,rfl,rfl⟩:=ht
 subst hq
 have gX:=hT.1
 rw[List.length_take,Nat.min_eq_left hk]at gX
 refine ZaG (λbB=>?_) (λcK=>?_)
 ·have aX:n2 < l.length:=by omega
  obtain⟨r,hr⟩:=Zbx aX
  have cD:=List.mem_of_getElem? hr
  obtain⟨b,o,cs,ha,cJ,hR⟩:=(hl.mono aY).get hr
  rw[Int.toNat_natCast]
  refine⟨b,o,ha,⟨by omega,by omega⟩,_,ZrY hR,Zm6 cJ,ZbL (Zoe s sa sc (by omega) r.t _ m2 hR.root (hg r cD) (hb.mono aY)) λa4 c4 bs m3 bN dG _ b5 nT=>?_⟩
  have ia:=Mem.le_add nT [Value.slice a4 (s.length+1) c4]
  refine⟨.inl (by trivial),vs,[Value.slice a4 (s.length+1) c4],by omega,rfl,(bU.mono bN).mono ia,ZpK,by simp[Value.oneCell'],by omega,by omega,λa7 c7 m7 dN jM=>⟨l.length - (n2+1),by omega,n2+1,a7,c7,vs++[Value.slice a4 (s.length+1) c4],by omega,by rw[Zao (by omega) (by omega)];rfl,rfl,jM,⟨by simp;omega,λi r' hi=>?_⟩,rfl⟩⟩
  have uZ:=mLt bN (mLt ia dN)
  by_cases e:i < n2
  ·obtain⟨a8,c8,bs8,h1,h2⟩:=hT.2 i r' (by rw[List.getElem?_take,if_pos e];rw[List.getElem?_take,if_pos (by omega)]at hi;exact hi)
   exact⟨a8,c8,bs8,by rw[List.getElem?_append_left (by omega)];exact h1,h2.mono uZ⟩
  ·rw[List.getElem?_take]at hi
   split at hi
   ·have e2:i=n2:=by omega
    subst e2
    rw[hr]at hi;cases hi
    exact⟨a4,c4,bs,by rw[List.getElem?_append_right (by omega),gX,Nat.sub_self];rfl,dG.mono (mLt ia dN)⟩
   ·cases hi
 ·have:n2=l.length:=by omega
  subst this
  rw[List.take_length]at hT
  refine⟨λxs _ _ m' q=>∃x:Nat,lo<=x/\x<=hi+1/\xs=[.int .i64 x]/\Zc6 l s (hi+1 - lo) lo=Zc6 l s (hi+1 - x) x/\q=hi+1 - x,⟨_,lo,Nat.le_refl _,md,rfl,rfl,rfl⟩,?_⟩
  rintro z m3 q bN ⟨x,eR,gu,hz,hF,hq⟩
  obtain rfl:z=x:=by simpa using hz
  subst hq
  have kj:=mLt aY bN
  refine ZaG (λcL=>?_) (λjK=>?_)
  ·have wj:x<=hi:=by omega
   have eF:hi+1 - x=(hi+1 - (x+1))+1:=by omega
   refine⟨λxs _ _ m' q=>∃j:Nat,j<=l.length/\xs=[.int .i64 j]/\Zex s x l 0=Zex s x (l.drop j) j/\q=l.length - j,⟨_,0,Nat.zero_le _,rfl,rfl,rfl⟩,?_⟩
   rintro z m4 q cE ⟨j,hj,hz,hL,hq⟩
   obtain rfl:z=j:=by simpa using hz
   subst hq
   have oi:=mLt kj cE
   have ph:=mLt bN cE
   refine ZaG (λeU=>?_) (λiD=>?_)
   ·have dO:j < l.length:=by omega
    obtain⟨r,hr⟩:=Zbx dO
    have cD:=List.mem_of_getElem? hr
    obtain⟨b,o,cs,ha,cJ,hR⟩:=(hl.mono oi).get hr
    obtain⟨a8,c8,bs8,h1,h2⟩:=hT.2 j r hr
    rw[Int.toNat_natCast]
    rcases bU.mono ph with e|⟨b9,o9,e9,q8⟩
    ·rw[e]at gX;simp at gX;omega
    refine⟨λ_ _ _=>(λv _ _=>∃z,v=.int .i64 z/\ZyN r.bg r.en (Zh1 (r.t.M s)) (s.length+1) x z),b,o,ha,⟨by omega,by omega⟩,cs,hR.len,cJ,b9,o9,e9,⟨by omega,by omega⟩,_,by rw[Nat.mul_one];exact q8 j _ h1,_,rfl,Zi8 hR (h2.mono ph) (by omega) (i:=x) (by omega),(λv _ _ ⟨z,e,_⟩=>by rw[e];rfl),?_⟩
    rintro z m5 cN ⟨z',e,hz⟩ M cR cT
    simp only[Value.int.injEq,true_and]at e
    subst e
    have mG:=Zps (hg r cD) hs (by omega) hz
    rw[ZkH hr]at hL
    refine ZaG (λh0=>Zac (mLt oi cR) ?_) (λh0=>⟨by trivial,l.length - (j+1),by omega,j+1,dO,by rw[Zao (by omega) (by omega)];rfl,?_,rfl⟩)
    ·cases hf:r.from s x with
     | none=>rw[hf]at mG;subst mG;exact absurd h0 (by decide)
     | some i=>
      rw[hf]at mG
      subst mG
      have:Zex s x l 0=some (j,i):=by rw[hL,Zex,hf]
      rw[hF,eF,Zc6,this];rfl
    ·cases hf:r.from s x with
     | none=>rw[hL,Zex,hf]
     | some i=>rw[hf]at mG;subst mG;exact absurd (Int.natCast_nonneg i) h0
   ·have:j=l.length:=by omega
    subst this
    rw[List.drop_length,Zex]at hL
    refine⟨by trivial,hi+1 - (x+1),by omega,x+1,by omega,by omega,by rw[Zao (by omega) (by omega)];rfl,?_,rfl⟩
    rw[hF,eF,Zc6,hL]
  ·have e0:hi+1 - x=0:=by omega
   refine Zac kj ?_
   rw[hF,e0];rfl
def KnownK(m m':Mem):Prop:=∀b o v,m b o=some v->∃u,m' b o=some u
theorem KnownK.upd{m m':Mem}(h:KnownK m m')(b o:Nat)(v:Value):KnownK m (m'.upd b o [v]):=λb' o' w hw=>by
 unfold Mem.upd
 split
 ·rename_i hc
  have e:o' - o=0:=by have:=hc.2.2;simp at this;omega
  exact⟨v,by rw[e];rfl⟩
 ·exact h b' o' w hw
theorem ZrZ{m:Mem}{a:Option Addr}{l:List Nat}(h:rowRd m a (Zcq l)){k:Nat}(hk:k < l.length):∃b o v,a=some ⟨b,o,none⟩/\m b (o+k*1)=some v:=by
 rcases h with h|⟨b,o,e,hr⟩
 ·have:l=[]:=by simpa[Zcq]using h
  rw[this]at hk;simp at hk
 ·exact⟨b,o,_,e,by rw[Nat.mul_one];exact hr k _ (by rw[Zcq,List.getElem?_map,List.getElem?_eq_getElem hk];rfl)⟩
theorem Zr0{b:Bool}{n:Int}:∀(v:Value)(m':Mem) (css:List (List Value)),Ret (.tuple #[.bool b,.int .i64 n]) v m' css->Shape.fits (.tup [.bool,.int .i64]) v=true:=λv _ _ h=>by rw[h];rfl
set_option maxHeartbeats 3200000 in
theorem Zl8(t:T)(s:List Nat)(sa:Option Addr)(sc:Nat)(i:Int)(m:Mem)(hr:Rep m t)(bW:t.nodes.length<=200)(hb:Byt m sa s)(hs:s.length<=30):
  CX Try.prog 23 #[t.v,.slice sa s.length sc,.int .i64 i] m [] (Ret (.bool true)):=by
 apply Zj2
 unfold Zgv
 intro b m1 aW eS _ _
 have dK:m1 b 0=some (.int .u8 t.k):=eS 0 _ rfl
 refine Zal (ZpM t m1 (hr.mono aW) (by omega)) (λv _ _ ⟨_,h,_⟩=>by rw[h];rfl) ?_
 rintro cs m2 aY ⟨cs',hv,ol⟩
 have hv:Value.agg (Array.mk cs)=.agg cs'.toArray:=hv
 simp only[Value.agg.injEq,Array.mk.injEq]at hv
 subst hv
 have im:=mLt aW aY
 refine Zal (Zm4 s sa sc m2 (hb.mono im) (by omega)) Zm3 ?_
 rintro a2 n2 c2 m3 bN ⟨a',c',hv,sU⟩
 simp only[Value.slice.injEq]at hv
 obtain⟨rfl,rfl,rfl⟩:=hv
 intro b1
 have kj:=mLt im bN
 have km:=ol.mono bN
 refine Zaa (by rw[km.len,Zob km.one];rfl) ⟨λj _ _=>if j=3 then Ret (.int .i64 (t.wrong s.length i))else Ret (.int .i64 (t.wrong s.length 0)),Ret (.int .i64 (t.wrong s.length i)),rfl,Zdt t cs sa s.length sc i m3 km,(λv _ _ h=>by rw[h];rfl),?_⟩
 intro n1 m4 cE mw
 have mw:Value.int .i64 n1=.int .i64 (t.wrong s.length i):=mw
 simp only[Value.int.injEq,true_and]at mw
 subst mw
 refine⟨Ret (.int .i64 (t.wrong s.length 0)),rfl,Zdt t cs sa s.length sc 0 m4 (km.mono cE),(λv _ _ h=>by rw[h];rfl),?_⟩
 intro n5 m5 cN lU
 have lU:Value.int .i64 n5=.int .i64 (t.wrong s.length 0):=lU
 simp only[Value.int.injEq,true_and]at lU
 subst lU
 intro M cR cT fV
 have lT:=mLt kj cR
 have oP:M b 0=some (.int .u8 t.k):=cR _ _ _ (bN _ _ _ (aY _ _ _ dK))
 have pi:=km.mono cR
 have rv:=hr.mono lT
 have sV:=hb.mono lT
 have pj:=sU.mono cR
 clear cT fV ol km sU
 refine⟨λxs _ _ m' q=>∃k:Nat,k<=2/\xs=[.int .i64 k]/\M.le m'/\q=2 - k,⟨_,0,by omega,rfl,Mem.le_refl _,rfl⟩,?_⟩
 rintro z m6 q _ ⟨k,hk,hz,dA,hq⟩
 obtain rfl:z=k:=by simpa using hz
 subst hq
 refine ZaG (λbB=>?_) (λcK=>Zac (mLt lT dA) rfl)
 have aX:k < 2:=by omega
 refine Zal (ZdR t a2 s c2 m6 (rv.mono dA) (λ_=>pj.mono dA)) Zr0 ?_
 intro b2 e1 m7 dN hv
 have hv:Value.tuple #[.bool b2,.int .i64 e1]=.tuple #[.bool (T.matches t s),.int .i64 (t.wrong s.length 0)]:=hv
 simp only[Value.tuple.injEq,Array.mk.injEq,List.cons.injEq,Value.bool.injEq,Value.int.injEq,true_and,and_true]at hv
 obtain⟨rfl,rfl⟩:=hv
 have lP:=mLt dA dN
 refine Zal (Zvr t a2 s c2 i m7 (rv.mono lP) (λ_=>pj.mono lP)) Zg1 ?_
 rintro a14 n6 c14 e2 m8 jJ ⟨ap,cp,hv,hP,u0⟩
 simp only[Value.tuple.injEq,Array.mk.injEq,List.cons.injEq,Value.slice.injEq,Value.int.injEq,true_and,and_true]at hv
 obtain⟨⟨rfl,rfl,rfl⟩,rfl⟩:=hv
 have kQ:=mLt lP jJ
 refine Zal (ZqT t a2 s c2 i m8 (rv.mono kQ) (λ_=>pj.mono kQ)) Zg1 ?_
 rintro a17 n8 c17 e3 m9 iO ⟨aq,cq,hv,hQ,u5⟩
 simp only[Value.tuple.injEq,Array.mk.injEq,List.cons.injEq,Value.slice.injEq,Value.int.injEq,true_and,and_true]at hv
 obtain⟨⟨rfl,rfl,rfl⟩,rfl⟩:=hv
 have jp:=mLt kQ iO
 have sW:=hP.mono iO
 have sX:∀back,(T.list t s i back).length<=513:=λback=>by unfold T.list;split;exact Zn3 _;simp
 have wk:=sX false
 have wl:=sX true
 have neq:∀x:Int,(!(x == x))=false:=λx=>by simp
 have om:∀j:Int,t.wrong s.length j=0->t.good=true\/t.k=0:=λj h=>Zjy (Zew h).1
 have hT:∀j:Int,t.wrong s.length j=0->∀mm,M.le mm->∀m',mm.le m'->CX Try.prog 87 #[.agg cs.toArray,.slice sa s.length sc] m' [] (Zm1 m' (Zh1 (t.M s)) (s.length+1)):=λj hj mm fE m' hm'=>Ztq s sa sc (by omega) t cs m' (pi.mono (mLt fE hm')) (om j hj) (sV.mono (mLt fE hm'))
 refine⟨false,ZbV (neq _) (ZbV (neq _) (ZbV (neq _) (Zan (Zm5 s a2 sa c2 sc m9 (pj.mono jp) (sV.mono jp)) λm10 eA=>⟨by trivial,rfl⟩))),ZbV rfl ⟨false,?_,ZbV rfl ⟨false,?_,ZbV rfl ⟨false,?_,ZbV rfl ?_⟩⟩⟩⟩
 ·have no:¬t.wrong s.length i=0->[Value.bool (!(IntKind.i64.wrap (((T.list t s i false).length:Int)+((T.list t s i true).length:Int)) == 0))]=[Value.bool false]:=λh=>by rw[Zuf h,Zuf h];rfl
  refine Zab (λh=>ZbV (ZqV (λe=>by rw[e]at h;cases h)) (Zab (λh2=>⟨by trivial,no λe=>by rw[e]at h2;cases h2⟩) (λ_=>⟨by trivial,rfl⟩))) (λ_=>Zab (λh2=>⟨by trivial,no λe=>by rw[e]at h2;cases h2⟩) (λ_=>⟨by trivial,rfl⟩))
 ·refine ZcG (λh0=>?_) (λ_=>⟨by trivial,rfl⟩)
  refine Zal (Zm2 pi.len (hT 0 h0 m9 jp) (i:=0) (by omega) (by omega)) Zl5 ?_
  rintro a20 n20 c20 m10 eA ⟨a21,c21,hv,hE⟩
  simp only[Value.slice.injEq]at hv
  obtain⟨rfl,rfl,rfl⟩:=hv
  have mE:=Zof (λj=>Zh1 (t.M s) 0 j) (s.length+1)
  refine Zan (ZpP _ _ _ s.length m10 hE (by unfold ZxQ;omega)) λm11 fW=>⟨by trivial,?_⟩
  rw[Ztr h0]
  simp
 ·refine ZcG (λh0=>?_) (λ_=>⟨by trivial,rfl⟩)
  obtain⟨_,_,j6,eO⟩:=Zew h0
  obtain⟨n,rfl⟩:∃n:Nat,i=n:=⟨i.toNat,by omega⟩
  refine Zal (Zm2 pi.len (hT n h0 m9 jp) (i:=n) (by omega) (by omega)) Zl5 ?_
  rintro a20 n20 c20 m10 eA ⟨a21,c21,hv,hE⟩
  simp only[Value.slice.injEq]at hv
  obtain⟨rfl,rfl,rfl⟩:=hv
  have e1:=ZwV h0
  rw[<-e1]at hE ⊢
  refine Zan (Zen _ _ _ _ _ _ m10 (sW.mono eA) hE (by omega)) λm11 fW=>?_
  refine ZbV (by simp) ?_
  have iR:=mLt jp (mLt eA fW)
  refine Zal (ZnN pi.len (hT n h0 m11 iR) (j:=n) (by omega) (by omega)) Zl5 ?_
  rintro a22 n22 c22 m12 fG ⟨a23,c23,hv,hF⟩
  simp only[Value.slice.injEq]at hv
  obtain⟨rfl,rfl,rfl⟩:=hv
  have e2:=ZxR h0
  rw[<-e2]at hF ⊢
  refine Zan (Zen _ _ _ _ _ _ m12 (hQ.mono (mLt eA (mLt fW fG))) hF (by omega)) λm13 eV=>⟨by trivial,by simp⟩
 ·refine⟨λxs _ _ m' q=>∃x:Nat,x<=(T.list t s i false).length/\xs=[.int .i64 x]/\M.le m'/\KnownK m9 m'/\q=(T.list t s i false).length - x,⟨_,0,Nat.zero_le _,rfl,jp,λ_ _ v h=>⟨v,h⟩,rfl⟩,?_⟩
  rintro z m10 q _ ⟨x,hx,hz,eA,jF,hq⟩
  obtain rfl:z=x:=by simpa using hz
  subst hq
  refine ZaG (λeU=>?_) (λiD=>?_)
  ·have hx':x < (T.list t s i false).length:=by omega
   obtain⟨b7,o7,v7,e7,h7⟩:=ZrZ sW hx'
   obtain⟨u7,h8⟩:=jF _ _ _ h7
   have hf:M.free b7:=Zdj lP (u0 b7 o7 e7)
   rw[Int.toNat_natCast]
   exact⟨b7,o7,e7,⟨by omega,by omega⟩,ZpN h8,Zdj lT hf,by trivial,Zw3 oP (Mem.le_refl _) hf,by trivial,_,by omega,x+1,by omega,by rw[Zao (by omega) (by omega)];rfl,Mem.le_upd eA hf _ _,jF.upd _ _ _,rfl⟩
  ·refine⟨λxs _ _ m' q=>∃y:Nat,y<=(T.list t s i true).length/\xs=[.int .i64 y]/\M.le m'/\KnownK m9 m'/\q=(T.list t s i true).length - y,⟨_,0,Nat.zero_le _,rfl,eA,jF,rfl⟩,?_⟩
   rintro z m11 q _ ⟨y,hy,hz,fW,oo,hq⟩
   obtain rfl:z=y:=by simpa using hz
   subst hq
   refine ZaG (λiQ=>?_) (λu6=>?_)
   ·have hy':y < (T.list t s i true).length:=by omega
    obtain⟨b7,o7,v7,e7,h7⟩:=ZrZ hQ hy'
    obtain⟨u7,h8⟩:=oo _ _ _ h7
    have hf:M.free b7:=Zdj kQ (u5 b7 o7 e7)
    rw[Int.toNat_natCast]
    exact⟨b7,o7,e7,⟨by omega,by omega⟩,ZpN h8,Zdj lT hf,by trivial,Zw3 oP (Mem.le_refl _) hf,by trivial,_,by omega,y+1,by omega,by rw[Zao (by omega) (by omega)];rfl,Mem.le_upd fW hf _ _,oo.upd _ _ _,rfl⟩
   ·exact⟨by trivial,_,by omega,k+1,by omega,by rw[Zao (by omega) (by omega)];rfl,fW,rfl⟩
theorem Zts(o:Option Nat):∃x b,ZmG o=[.int .i64 x,.bool b]/\b=o.isSome/\x=(if(0:Int) > Zs8 o then 0 else Zs8 o)/\b=decide (Zs8 o ≥ 0):=by
 cases o with
 | none=>exact⟨0,false,rfl,rfl,rfl,rfl⟩
 | some k=>exact⟨k,true,rfl,rfl,by rw[if_neg (by simp[Zs8])];rfl,(decide_eq_true (Int.natCast_nonneg k)).symm⟩
theorem Zvu{r:Rg}{s:List Nat}{n:Int}(h:¬Rg.wrong r s.length n=0):ZgW r s n=none:=by unfold ZgW;rw[if_neg h]
theorem ZwY{r:Rg}{len:Nat}{n:Int}(h:Rg.wrong r len n=0):r.t.good=true/\len<=512/\0<=n/\n<=len:=by
 unfold Rg.wrong at h
 split at h
 ·rename_i hc
  have:=Zew h
  exact⟨(ZmM hc).1,this.2⟩
 ·exact absurd h (by decide)
theorem ZqX(n:Nat)(o:Option (Nat×Nat)):ZsK n o=Znv (o.map λp=>(p.1,p.2,n)):=by cases o <;> rfl
theorem ZmN(l:List Rg)(s:List Nat)(n:Nat):Zc6 l s 1 n=(Zex s n l 0).map λp=>(p.1,p.2,n):=by
 rw[Zc6]
 cases h:Zex s n l 0 with
 | none=>rfl
 | some p=>rfl
theorem Zug(o:Option (Nat×Nat×Nat)):∃(x y z k f t:Int)(b:Bool),Znv o=[.agg #[.int .i64 x,.int .i64 y,.int .i64 z],.bool b]/\Zy6 o=.tuple #[.int .i64 k,.int .i64 f,.int .i64 t]/\b=decide (k ≥ 0)/\(b=false->x=0/\y=0/\z=0)/\(b=true->x=k/\y=f/\z=t):=by
 cases o with
 | none=>exact⟨0,0,0,-1,-1,-1,false,rfl,rfl,rfl,λ_=>⟨rfl,rfl,rfl⟩,λh=>by cases h⟩
 | some p=>exact⟨p.1,p.2.1,p.2.2,p.1,p.2.1,p.2.2,true,rfl,rfl,(decide_eq_true (Int.natCast_nonneg _)).symm,(λh=>by cases h),λ_=>⟨rfl,rfl,rfl⟩⟩
theorem Zm8{l:List Rg}{len:Nat}{n:Int}(h:Za7 l len n=0):∀r∈l,r.t.good=true:=by
 unfold Za7 at h
 split at h
 ·exact absurd h (by decide)
 ·split at h
  ·rename_i bR
   intro r hr
   have:=List.all_eq_true.1 bR r hr
   exact(ZmM (eq_of_beq this)).1
  ·exact absurd h (by decide)
theorem Zzt(n:Nat):(if(8:Int) < n then(8:Int)else n)=((min n 8:Nat):Int):=by split <;> omega
set_option maxHeartbeats 3200000 in
theorem ZcC(l:List Rg)(al:Option Addr)(cl:Nat)(s:List Nat)(sa:Option Addr)(sc:Nat)(i:Int)(m:Mem)(hl:Rgs m al l)(eY:l.length<=cl)(hn:l.length<=70)(bW:∀r∈l,r.t.nodes.length<=60)(hb:Byt m sa s)(hs:s.length<=30):
  CX Try.prog 22 #[.slice al l.length cl,.slice sa s.length sc,.int .i64 i] m [] (Ret (.bool true)):=by
 apply Zj0
 unfold Zgt
 rw[Zzt]
 refine Zal (ZpR l al cl m hl (by omega) λr hr=>by have:=bW r hr;omega) Zvt ?_
 rintro a n0 c m1 aW ⟨a',c',css,hv,hR⟩
 simp only[Value.slice.injEq]at hv
 obtain⟨rfl,rfl,rfl⟩:=hv
 refine Zal (Zm4 s sa sc m1 (hb.mono aW) (by omega)) Zm3 ?_
 rintro a2 n2 c2 m2 aY ⟨a',c',hv,hO⟩
 simp only[Value.slice.injEq]at hv
 obtain⟨rfl,rfl,rfl⟩:=hv
 have im:=mLt aW aY
 have ol:=hR.mono aY
 refine⟨⟨by omega,by omega⟩,?_⟩
 have e8:Int.toNat ((min l.length 8:Nat):Int) - 0=min l.length 8:=by rw[Int.toNat_natCast];rfl
 rw[e8]
 refine⟨λxs _ _ m' q=>∃k:Nat,k<=min l.length 8/\xs=[.int .i64 k]/\q=min l.length 8 - k,⟨_,0,Nat.zero_le _,rfl,rfl⟩,?_⟩
 rintro z m3 q bN ⟨k,hk,hz,hq⟩
 obtain rfl:z=k:=by simpa using hz
 subst hq
 have kj:=mLt im bN
 refine ZaG (λbB=>?_) (λcK=>?_)
 ·have aX:k < min l.length 8:=by omega
  obtain⟨r,hr⟩:=Zbx (l:=l) (k:=k) (by omega)
  have cD:=List.mem_of_getElem? hr
  have jH:=hl.mono kj
  rcases jH.2.1 with e|⟨b,o,ha,cJ⟩
  ·rw[e]at hr;cases hr
  have ru:=cJ k r hr
  have fT:=jH.2.2 r cD
  obtain⟨b9,o9,cs,sY,oq,pk⟩:=(ol.mono bN).get hr
  have fK:=hO.mono bN
  rw[Int.toNat_natCast]
  refine⟨b,o,ha,⟨by omega,by omega⟩,.bool r.bg,.bool r.en,.int .u8 r.t.k,.int .u64 r.t.s0,.int .u64 r.t.s1,.int .u64 r.t.s2,.int .u64 r.t.s3,.int .i64 r.t.mn,.int .i64 r.t.mx,.slice r.t.a r.t.subs.length r.t.c,ru,λb3=>Zaa rfl ⟨b9,o9,sY,⟨by omega,by omega⟩,cs,pk.len,oq,?_⟩⟩
  refine ZaC (Zl7 pk sa s.length sc i) λm4 cE=>?_
  refine Zal (Zoa r a2 s c2 i m4 (fT.mono cE) (λ_=>fK.mono cE)) Zr0 ?_
  intro b2 e2 m5 cN hv
  have hv:Value.tuple #[.bool b2,.int .i64 e2]=.tuple #[.bool (ZgW r s i).isSome,.int .i64 (Rg.wrong r s.length i)]:=hv
  simp only[Value.tuple.injEq,Array.mk.injEq,List.cons.injEq,Value.bool.injEq,Value.int.injEq,true_and,and_true]at hv
  obtain⟨rfl,rfl⟩:=hv
  obtain⟨x,bx,cI,kq,nj,u9⟩:=Zts (ZgW r s i)
  have hF:=ZrQ r a2 s c2 i m5 ((fT.mono cE).mono cN) (λ_=>(fK.mono cE).mono cN)
  rw[cI]at hF
  refine Zal hF (λv _ _ h=>by rw[h];rfl) ?_
  intro x' b' e' m6 dA hv
  have hv:Value.tuple #[.int .i64 x',.bool b',.int .i64 e']=.tuple #[.int .i64 x,.bool bx,.int .i64 (Rg.wrong r s.length i)]:=hv
  simp only[Value.tuple.injEq,Array.mk.injEq,List.cons.injEq,Value.bool.injEq,Value.int.injEq,true_and,and_true]at hv
  obtain⟨rfl,rfl,rfl⟩:=hv
  have neq:∀x:Int,(!(x == x))=false:=λx=>by simp
  have iz:=mLt cE (mLt cN dA)
  have st:∀z:Int,z=Zs8 (ZgW r s i)->(!(ZgW r s i).isSome == decide (z ≥ 0))=false/\(!b' == (ZgW r s i).isSome)=false/\(!x' == (if(0:Int) > z then 0 else z))=false:=λz hz=>by
   subst hz
   refine⟨?_,?_,?_⟩
   ·rw[<-u9,kq];simp
   ·rw[kq];simp
   ·rw[<-nj];simp
  refine ZcG (λh0=>?_) (λh0=>?_)
  ·obtain⟨hg,jy,j6,eO⟩:=ZwY h0
   obtain⟨n,rfl⟩:∃n:Nat,i=n:=⟨i.toNat,by omega⟩
   have eE:ZgW r s n=r.from s n:=by unfold ZgW;rw[if_pos h0];rfl
   refine⟨b9,o9,sY,⟨by omega,by omega⟩,cs,pk.len,(by exact oq.mono iz),ZaC (ZqW (pk.mono iz) hg s sa sc jy (hb.mono (mLt kj iz)) (n:=n) (by omega)) λm7 dN=>?_⟩
   obtain⟨s1,s2,s3⟩:=st _ (by rw[eE])
   exact⟨false,ZbV (neq _) (ZbV (neq _) (ZbV s1 (ZbV s2 ⟨by trivial,by rw[s3]⟩))),ZbV rfl ⟨min l.length 8 - (k+1),by omega,k+1,by omega,by rw[Zao (by omega) (by omega)];rfl,rfl⟩⟩
  ·obtain⟨s1,s2,s3⟩:=st (-1) (by rw[Zvu h0];rfl)
   exact⟨false,ZbV (neq _) (ZbV (neq _) (ZbV s1 (ZbV s2 ⟨by trivial,by rw[s3]⟩))),ZbV rfl ⟨min l.length 8 - (k+1),by omega,k+1,by omega,by rw[Zao (by omega) (by omega)];rfl,rfl⟩⟩
 ·obtain⟨x1,y1,z1,k1,f1,t1,b1,v1,w1,d1,no1,ye1⟩:=Zug ((ZpJ l s i).map λp=>(p.1,p.2,i.toNat))
  obtain⟨x2,y2,z2,k2,f2,t2,b2,v2,w2,d2,no2,ye2⟩:=Zug (ZdH l s)
  have hL:=ZwP l al cl a2 s c2 i m3 (λ_=>hl.mono kj) (λ_=>hO.mono bN)
  rw[ZqX,v1]at hL
  refine Zal hL (λv _ _ h=>by rw[h];rfl) ?_
  intro xa ya za ba wa m4 cE hv
  have hv:Value.tuple #[.agg #[.int .i64 xa,.int .i64 ya,.int .i64 za],.bool ba,.int .i64 wa]=.tuple #[.agg #[.int .i64 x1,.int .i64 y1,.int .i64 z1],.bool b1,.int .i64 (Za7 l s.length i)]:=hv
  simp only[Value.tuple.injEq,Value.agg.injEq,Array.mk.injEq,List.cons.injEq,Value.bool.injEq,Value.int.injEq,true_and,and_true]at hv
  obtain⟨⟨rfl,rfl,rfl⟩,rfl,rfl⟩:=hv
  intro b8
  have oi:=mLt kj cE
  have vb:=(hO.mono bN).mono cE
  have hF:=ZfZ l al cl a2 s c2 m4 (λ_=>hl.mono oi) (λ_=>vb)
  rw[v2]at hF
  refine Zal hF (λv _ _ h=>by rw[h];rfl) ?_
  intro xb yb zb bb wb m5 cN hv
  have hv:Value.tuple #[.agg #[.int .i64 xb,.int .i64 yb,.int .i64 zb],.bool bb,.int .i64 wb]=.tuple #[.agg #[.int .i64 x2,.int .i64 y2,.int .i64 z2],.bool b2,.int .i64 (Za7 l s.length 0)]:=hv
  simp only[Value.tuple.injEq,Value.agg.injEq,Array.mk.injEq,List.cons.injEq,Value.bool.injEq,Value.int.injEq,true_and,and_true]at hv
  obtain⟨⟨rfl,rfl,rfl⟩,rfl,rfl⟩:=hv
  intro b9
  have rx:=(ol.mono bN).mono (mLt cE cN)
  refine ZaC (ZhI l a c css sa s.length sc i m5 rx (by omega)) λm6 dA=>?_
  refine ZaC (ZhI l a c css sa s.length sc 0 m6 (rx.mono dA) (by omega)) λm7 dN=>?_
  have neq:∀x:Int,(!(x == x))=false:=λx=>by simp
  refine⟨false,ZbV (neq _) ⟨by trivial,by rw[neq]⟩,ZbV rfl ?_⟩
  intro b10 ry
  have ve:=mLt oi (mLt cN (mLt dA dN))
  have mH:=mLt cE (mLt cN (mLt dA dN))
  have mQ:=Mem.le_add ry (Zak s.length i xa ya za ba xb yb zb bb (Za7 l s.length i) (Za7 l s.length 0))
  refine⟨λxs _ _ m' q=>∃k:Nat,k<=2/\xs=[.int .i64 k]/\q=2 - k,⟨_,0,by omega,rfl,rfl⟩,?_⟩
  rintro z m8 q jJ ⟨k,hk,hz,hq⟩
  obtain rfl:z=k:=by simpa using hz
  subst hq
  have rz:=mLt mQ jJ
  have pl:=mLt ve rz
  have vf:=mLt mH rz
  refine ZaG (λbB=>?_) (λjK=>?_)
  ·have eB:k=0\/k=1:=by omega
   have sZ:=rx.mono (mLt dA (mLt dN rz))
   rcases eB with rfl|rfl
   ·refine⟨⟨by omega,by omega⟩,Zaa rfl λb6=>Zaa rfl (Zah rfl (Zaa rfl (ZcG (λh0=>Zah rfl (Zah rfl ?_)) (λh0=>?_))))⟩
    ·have h0':Za7 l s.length i=0:=h0
     obtain⟨_,jy,j6,eO⟩:=ZlJ h0'
     obtain⟨n,rfl⟩:∃n:Nat,i=n:=⟨i.toNat,by omega⟩
     have hB:=Zm7 l a c css s sa sc n n m8 sZ (by omega) (Zm8 h0') (hb.mono pl) jy (by omega) (by omega)
     have eL:ZpJ l s n=Zex s n l 0:=by unfold ZpJ;rw[if_pos h0'];rfl
     have w1':Zy6 ((ZpJ l s (n:Int)).map λp=>(p.1,p.2,n))=_:=w1
     rw[show n+1 - n=1 by omega,ZmN,<-eL,w1']at hB
     refine Zal hB (λv _ _ h=>by rw[h];rfl) ?_
     intro kk ff tt m9 iO hv
     have hv:Value.tuple #[.int .i64 kk,.int .i64 ff,.int .i64 tt]=.tuple #[.int .i64 k1,.int .i64 f1,.int .i64 t1]:=hv
     simp only[Value.tuple.injEq,Array.mk.injEq,List.cons.injEq,Value.int.injEq,true_and,and_true]at hv
     obtain⟨rfl,rfl,rfl⟩:=hv
     refine⟨false,Zah rfl ⟨ba,rfl,ZbV (by rw[d1];simp) (Zah rfl ⟨ba,rfl,Zab (λhb=>?_) (λhb=>?_)⟩)⟩,ZbV rfl ?_⟩
     ·have hb':ba=false:=by rw[<-Bool.not_not ba,hb];rfl
      obtain⟨rfl,rfl,rfl⟩:=no1 hb'
      exact Zaa rfl ⟨_,ZhQ 0 0 0 0 0 0,ZbV (by simp) (Zah rfl ⟨ba,rfl,ZbV hb' ⟨by trivial,rfl⟩⟩)⟩
     ·have hb':ba=true:=by rw[<-Bool.not_not ba,hb];rfl
      obtain⟨rfl,rfl,rfl⟩:=ye1 hb'
      exact Zah rfl ⟨ba,rfl,Zys hb' (Zaa rfl ⟨_,ZhQ _ _ _ _ _ _,by trivial,by simp⟩)⟩
     ·exact⟨by trivial,1,by omega,1,by omega,rfl,rfl⟩
    ·have h0':¬Za7 l s.length i=0:=h0
     have eL:ZpJ l s i=none:=by unfold ZpJ;rw[if_neg h0']
     rw[eL]at w1
     have w1':Value.tuple #[.int .i64 (-1),.int .i64 (-1),.int .i64 (-1)]=.tuple #[.int .i64 k1,.int .i64 f1,.int .i64 t1]:=w1
     simp only[Value.tuple.injEq,Array.mk.injEq,List.cons.injEq,Value.int.injEq,true_and,and_true]at w1'
     obtain⟨rfl,rfl,rfl⟩:=w1'
     have hb':ba=false:=d1
     obtain⟨rfl,rfl,rfl⟩:=no1 hb'
     refine⟨false,Zah rfl ⟨ba,rfl,ZbV (by rw[d1];simp) (Zah rfl ⟨ba,rfl,Zab (λhb=>?_) (λhb=>?_)⟩)⟩,ZbV rfl ⟨by trivial,1,by omega,1,by omega,rfl,rfl⟩⟩
     ·exact Zaa rfl ⟨_,ZhQ 0 0 0 0 0 0,ZbV (by simp) (Zah rfl ⟨ba,rfl,ZbV hb' ⟨by trivial,rfl⟩⟩)⟩
     ·rw[hb']at hb;cases hb
   ·refine⟨⟨by omega,by omega⟩,Zaa rfl λb6=>Zaa rfl (Zah rfl (Zaa rfl (ZcG (λh0=>Zah rfl (Zah rfl ?_)) (λh0=>?_))))⟩
    ·have h0':Za7 l s.length 0=0:=h0
     obtain⟨_,jy,j6,eO⟩:=ZlJ h0'
     have hB:=Zm7 l a c css s sa sc 0 s.length m8 sZ (by omega) (Zm8 h0') (hb.mono pl) jy (by omega) (by omega)
     have eL:ZdH l s=Zc6 l s (s.length+1) 0:=by unfold ZdH;rw[if_pos h0']
     rw[show s.length+1 - 0=s.length+1 by omega,<-eL,w2]at hB
     refine Zal hB (λv _ _ h=>by rw[h];rfl) ?_
     intro kk ff tt m9 iO hv
     have hv:Value.tuple #[.int .i64 kk,.int .i64 ff,.int .i64 tt]=.tuple #[.int .i64 k2,.int .i64 f2,.int .i64 t2]:=hv
     simp only[Value.tuple.injEq,Array.mk.injEq,List.cons.injEq,Value.int.injEq,true_and,and_true]at hv
     obtain⟨rfl,rfl,rfl⟩:=hv
     refine⟨false,Zah rfl ⟨bb,rfl,ZbV (by rw[d2];simp) (Zah rfl ⟨bb,rfl,Zab (λhb=>?_) (λhb=>?_)⟩)⟩,ZbV rfl ?_⟩
     ·have hb':bb=false:=by rw[<-Bool.not_not bb,hb];rfl
      obtain⟨rfl,rfl,rfl⟩:=no2 hb'
      exact Zaa rfl ⟨_,ZhQ 0 0 0 0 0 0,ZbV (by simp) (Zah rfl ⟨bb,rfl,ZbV hb' ⟨by trivial,rfl⟩⟩)⟩
     ·have hb':bb=true:=by rw[<-Bool.not_not bb,hb];rfl
      obtain⟨rfl,rfl,rfl⟩:=ye2 hb'
      exact Zah rfl ⟨bb,rfl,Zys hb' (Zaa rfl ⟨_,ZhQ _ _ _ _ _ _,by trivial,by simp⟩)⟩
     ·exact⟨by trivial,0,by omega,2,by omega,rfl,rfl⟩
    ·have h0':¬Za7 l s.length 0=0:=h0
     have eL:ZdH l s=none:=by unfold ZdH;rw[if_neg h0']
     rw[eL]at w2
     have w2':Value.tuple #[.int .i64 (-1),.int .i64 (-1),.int .i64 (-1)]=.tuple #[.int .i64 k2,.int .i64 f2,.int .i64 t2]:=w2
     simp only[Value.tuple.injEq,Array.mk.injEq,List.cons.injEq,Value.int.injEq,true_and,and_true]at w2'
     obtain⟨rfl,rfl,rfl⟩:=w2'
     have hb':bb=false:=d2
     obtain⟨rfl,rfl,rfl⟩:=no2 hb'
     refine⟨false,Zah rfl ⟨bb,rfl,ZbV (by rw[d2];simp) (Zah rfl ⟨bb,rfl,Zab (λhb=>?_) (λhb=>?_)⟩)⟩,ZbV rfl ⟨by trivial,0,by omega,2,by omega,rfl,rfl⟩⟩
     ·exact Zaa rfl ⟨_,ZhQ 0 0 0 0 0 0,ZbV (by simp) (Zah rfl ⟨bb,rfl,ZbV hb' ⟨by trivial,rfl⟩⟩)⟩
     ·rw[hb']at hb;cases hb
  ·refine Zan (Zm5 s a2 sa c2 sc m8 ((hO.mono bN).mono vf) (hb.mono pl)) λm9 iO=>Zac (mLt pl iO) rfl
end Go.Proofs.Ythiefodednaikaa