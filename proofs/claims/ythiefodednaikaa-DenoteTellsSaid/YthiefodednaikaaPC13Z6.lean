/- Part of the proof: conditions and contracts of functions of this program. No condition of its own. -/
import Derived.Test.YthiefodednaikaaPC13TD
import Derived.Test.YthiefodednaikaaPVRU
import Derived.Test.YthiefodednaikaaMr
import Derived.Test.YthiefodednaikaaMc
set_option linter.unusedVariables false
set_option linter.unusedSimpArgs false
namespace Go.Proofs.Ythiefodednaikaa
open Go Go.Eng Go.Rx Go.Proofs Go.RowKit
set_option maxRecDepth 100000
def ZuQ(e:Int)(l:List Nat)(m:Mem):RT:=fun v m' _=>∃a c,v=.tuple #[.slice a l.length c,.int .i64 e]∧rowRd m' a (ZbP l)∧∀b o,a=some ⟨b,o,none⟩→m.free b
theorem ZfN{e l m}:∀(v:Value)(m':Mem) (css:List (List Value)),ZuQ e l m v m' css→Shape.fits (.tup [.slice,.int .i64]) v=true:=fun v _ _ ⟨a,c,h,_⟩=>by rw[h];rfl
theorem ZpZ(t:T)(a:Option Addr)(s:List Nat)(c:Nat)(i:Int)(back:Bool)(m:Mem)(hr:Rep m t)(hb:t.wrong s.length i=0→Byt m a s):CX Try.prog 47 #[t.v,.slice a s.length c,.int .i64 i,.bool back] m [] (ZuQ (t.wrong s.length i) (T.list t s i back) m):=by
 apply Zgz
 unfold ZdH
 intro b m1 aW _ _ _
 refine ZaB (ZfH t a s.length c i m1 (hr.mono aW)) fun m2 aY=>Zab (fun h=>?_) (fun h b1=>?_)
 ·have h':¬t.wrong s.length i=0:=by simpa using h
  refine Zac (Mem.le_trans aW aY) ⟨none,0,?_,.inl ?_,fun b o e=>by cases e⟩ <;> unfold T.list <;> rw[if_neg h'] <;> rfl
 ·have h':t.wrong s.length i=0:=by simpa using h
  obtain⟨hw,hs,mj,eW⟩:=Zen h'
  obtain⟨n,rfl⟩:∃n:Nat,i=n:=⟨i.toNat,by omega⟩
  have cT:m.le m2:=Mem.le_trans aW aY
  have hU:(2:Nat) ^ n < ZbL:=Zpv (by omega)
  refine⟨fun j _ _=>if j=5 then Ret (plV (2 ^ n))else Ret (plV (t.lead s back (2 ^ n))),Ret (plV (2 ^ n)),rfl,Zr5 n (by omega) m2,ZaT,Zku fun m3 bQ=>⟨Ret (plV (t.lead s back (2 ^ n))),rfl,Zla a s c back hs t hw (2 ^ n) m3 hU (hr.mono (Mem.le_trans cT bQ)) ((hb h').mono (Mem.le_trans cT bQ)),ZaT,Zku fun m4 cG b2 M cY gO dK m5 cP dO=>Zaj (Zs1 (t.lead s back (2 ^ n)) b2 m5 dO) (fun v _ _ ⟨c,e,_⟩=>by rw[e];rfl) ?_⟩⟩
  rintro g fi ca m6 dJ ⟨cb,hv,kK⟩
  simp only[Value.func.injEq,Fn.func.injEq,Array.mk.injEq]at hv
  obtain⟨rfl,rfl,rfl⟩:=hv
  have ji:m.le m6:=Mem.le_trans cT (Mem.le_trans cY (Mem.le_trans cP dJ))
  have hL:T.list t s (n:Int) back=ZbM (t.lead s back (2 ^ n)):=by unfold T.list;rw[if_pos h'];rfl
  rw[hL,h']
  generalize hX:ZbM (t.lead s back (2 ^ n))=X
  have rV:X.length≤513:=by rw[←hX];exact Zl9 _
  refine⟨m6,Mem.le_refl _,X.map fun i=>[.int .i64 (i:Nat)],?_,?_,?_⟩
  ·rw[←hX];exact ZpR _ b2 cb m6 (dO.mono dJ) kK
  ·intro x hx
   obtain⟨y,_,rfl⟩:=List.mem_map.1 hx
   rfl
  refine⟨fun xs css tvs m' q=>∃a' c',css=[[.slice a' q c']]∧tvs=[.slice a' q c']∧rowRd m' a' (ZbP (X.take q))∧∀b o,a'=some ⟨b,o,none⟩→m.free b,⟨none,0,rfl,rfl,.inl rfl,fun b o e=>by cases e⟩,?_,?_⟩
  ·rintro z cs a1 n1 c1 m7 q dZ hq ⟨a',c',cS,iA,cC,eQ⟩
   obtain rfl:cs=[.slice a' q c']:=by simpa using cS
   obtain⟨rfl,rfl,rfl⟩:a1=a'∧n1=q∧c1=c':=by simpa using iA
   have hq':(X.map fun i=>[Value.int .i64 (i:Nat)])[(n1:Nat)]?=some [.int .i64 z]:=hq
   rw[List.getElem?_map]at hq'
   obtain⟨y,hy,hz⟩:=Option.map_eq_some_iff.1 hq'
   obtain rfl:z=y:=(Zpo hz).symm
   have bA:=(List.getElem?_eq_some_iff.1 hy).1
   refine Zal rfl fun b3 bR=>Zaa rfl ⟨.inl rfl,ZbP (X.take n1),[.int .i64 y],?_,rfl,cC.mono (Mem.le_add bR _),.inr ⟨b3,0,rfl,?_⟩,?_,?_,?_,?_⟩
   ·simp[ZbP,slN];omega
   ·intro j v hj;rw[Nat.zero_add,Mem.add_same];exact hj
   ·intro u hu;obtain rfl:u=.int .i64 y:=by simpa using hu
    rfl
   ·simp only[slN];omega
   ·simp only[slN];omega
   ·intro a2 c2 m8 nj iU lr
    have h8:=Mem.le_trans dZ (Mem.le_add bR [Value.int .i64 y])
    refine⟨Mem.le_trans h8 nj,by trivial,a2,c2,rfl,rfl,?_,fun b9 o9 e9=>?_⟩
    ·rw[←Zlb hy];exact iU
    ·rcases lr.2 with h|⟨b8,o8,e8,h⟩
     ·rw[h]at e9;cases e9
     ·rw[e8]at e9;cases e9
      rcases h with h|⟨_,h⟩
      ·exact eQ _ _ (h.trans e8)
      ·exact ZcC (Mem.le_trans ji h8) h
  ·rintro cs a1 n1 c1 m7 dZ ⟨a',c',cS,iA,cC,eQ⟩
   rw[List.length_map]at cS iA cC
   obtain rfl:cs=[.slice a' X.length c']:=by simpa using cS
   rw[List.take_length]at cC
   exact Zal rfl ⟨m7,Mem.le_trans ji dZ,Mem.le_refl _,a',c',rfl,cC,eQ⟩
theorem Ztp(t:T)(a:Option Addr)(s:List Nat)(c:Nat)(i:Int)(m:Mem)(hr:Rep m t)(hb:t.wrong s.length i=0→Byt m a s):CX Try.prog 14 #[t.v,.slice a s.length c,.int .i64 i] m [] (ZuQ (t.wrong s.length i) (T.list t s i false) m):=by
 apply Zfb
 unfold Zdb
 intro b m1 aW _
 refine Zaj (ZpZ t a s c i false m1 (hr.mono aW) (fun h=>(hb h).mono aW)) ZfN ?_
 rintro a1 n1 c1 e1 m2 aY ⟨a',c',e,h,hn⟩
 exact⟨m2,Mem.le_trans aW aY,Mem.le_refl _,a',c',e,h,fun b o h=>ZcC aW (hn b o h)⟩
theorem ZoW(t:T)(a:Option Addr)(s:List Nat)(c:Nat)(i:Int)(m:Mem)(hr:Rep m t)(hb:t.wrong s.length i=0→Byt m a s):CX Try.prog 15 #[t.v,.slice a s.length c,.int .i64 i] m [] (ZuQ (t.wrong s.length i) (T.list t s i true) m):=by
 apply ZdG
 unfold Zcd
 intro b m1 aW _
 refine Zaj (ZpZ t a s c i true m1 (hr.mono aW) (fun h=>(hb h).mono aW)) ZfN ?_
 rintro a1 n1 c1 e1 m2 aY ⟨a',c',e,h,hn⟩
 exact⟨m2,Mem.le_trans aW aY,Mem.le_refl _,a',c',e,h,fun b o h=>ZcC aW (hn b o h)⟩
def Zwe(l:List Nat):RT:=fun v m' _=>∃a c,v=.slice a l.length c∧Byt m' a l
theorem ZoX{l:List Nat}:∀(v:Value)(m':Mem) (css:List (List Value)),Zwe l v m' css→Shape.fits .slice v=true:=fun v _ _ ⟨a,c,h,_⟩=>by rw[h];rfl
theorem Zp0{m:Mem}{a:Option Addr}{L:List Nat}(h:Byt m a L):rowRd m a (L.map fun c:Nat=>Value.int .u8 c):=by
 rcases h.1 with h|h
 ·exact .inl (by rw[h];rfl)
 ·exact .inr h
theorem ZoY(bs:List Nat)(a:Option Addr)(c:Nat)(m:Mem)(h:Byt m a bs)(hl:bs.length≤100000):CX Try.prog 57 #[.slice a bs.length c] m [] (Zwe bs):=by
 have cC:=Zp0 h
 refine CXT.toCX (esz:=1) ?_
 apply Zb2
 unfold Zbn
 refine Zab (fun hz=>?_) (fun hz=>⟨⟨rfl,Int.le_refl _,by decide,by decide⟩,fun b hb=>⟨.inl rfl,[],bs.map fun c:Nat=>Value.int .u8 c,rfl,by rw[List.length_map];omega,.inl rfl,cC,fun u hu=>?_,by omega,by omega,fun a' c' m' hm' hr lr=>⟨rfl,a',c',by rw[Nat.zero_add],?_,h.2⟩⟩⟩)
 ·have pa:bs=[]:=by
   rcases h.1 with h1|⟨b,o,h1,_⟩
   ·exact h1
   ·rw[h1]at hz;simp at hz
  subst pa
  exact⟨rfl,none,0,rfl,.inl rfl,by simp⟩
 ·obtain⟨i,_,rfl⟩:=List.mem_map.1 hu
  rfl
 ·rcases hr with hr|hr
  ·left
   have:=congrArg List.length hr
   simp at this;exact this
  ·exact .inr hr
def mkB(l:List Nat):ByteArray:=⟨(l.map UInt8.ofNat).toArray⟩
theorem ZoZ{l:List Nat}(h:∀c∈l,c < 256):ZcT (mkB l)=l:=by
 unfold ZcT mkB
 simp only[List.map_map]
 have:l.map ((fun b:UInt8=>b.toNat)∘UInt8.ofNat)=l.map id:=by
  refine List.map_congr_left fun c hc=>?_
  have:=h c hc
  simp[UInt8.toNat_ofNat',Nat.mod_eq_of_lt this]
 rw[this,List.map_id]
theorem Zo0(bs:List Nat)(a b:Option Addr)(c d:Nat)(m:Mem)(hl:Byt m a bs)(hr:Byt m b bs):CX Try.prog 62 #[.slice a bs.length c,.slice b bs.length d] m [] (Ret (.bool true)):=by
 apply Zir
 unfold Zff
 have e:=ZoZ hl.2
 have hs:(mkB bs).size=bs.length:=by rw[←Zlc,e]
 refine⟨mkB bs,hs,by rw[Zgl,e];exact Zp0 hl,mkB bs,hs,by rw[Zgl,e];exact Zp0 hr,Zac (Mem.le_refl _) ?_⟩
 simp
theorem Ztq(l:List Nat)(a:Option Addr)(c x:Nat)(m:Mem)(h:rowRd m a (ZbP l))(hl:l.length≤1000000000000000):CX Try.prog 70 #[.slice a l.length c,.int .i64 x] m [] (fun v _ _=>∃z:Int,v=.int .i64 z∧(z ≥ 0↔x∈l)):=by
 apply ZcH
 unfold Zbw
 refine⟨fun xs css _ m' q=>∃k:Nat,k≤l.length∧xs=[.int .i64 k]∧x ∉ l.take k∧q=l.length - k,⟨_,0,by omega,rfl,by simp,rfl⟩,?_⟩
 rintro z m1 q aW ⟨k,hk,hz,gB,hq⟩
 obtain rfl:z=k:=by simpa using hz
 refine Zab (fun bA=>?_) (fun cM=>⟨m1,aW,Mem.le_refl _,_,rfl,?_⟩)
 ·have aX:k < l.length:=by have:=of_decide_eq_true bA;omega
  obtain⟨u,hu⟩:=Zb1 aX
  have gw:IntKind.i64.wrap ((k:Int)+1)=((k+1:Nat):Int):=by rw[Zan (by omega) (by omega)];rfl
  rcases h.mono aW with h|⟨b,o,h1,h2⟩
  ·rw[show l=[] by simpa[ZbP]using h]at hu;simp at hu
  simp only[gw,Int.toNat_natCast,Nat.mul_one]
  refine⟨b,o,h1,⟨by omega,by omega⟩,_,h2 k (.int .i64 u) (by rw[ZbP,List.getElem?_map,hu];rfl),Zaa rfl (Zab (fun hc=>⟨m1,aW,Mem.le_refl _,_,rfl,?_⟩) (fun hc=>⟨l.length - (k+1),by omega,k+1,by omega,rfl,?_,rfl⟩))⟩
  ·have:x=u:=by simp[RowKit.intOf]at hc;omega
   subst this
   exact⟨fun _=>List.mem_of_getElem? hu,fun _=>by omega⟩
  ·rw[Zg4 hu,List.mem_append]
   rintro(h|h)
   ·exact gB h
   ·simp at h;subst h;simp[RowKit.intOf]at hc
 ·have:k=l.length:=by have:=of_decide_eq_false cM;omega
  subst this
  rw[List.take_length]at gB
  exact⟨fun h=>by omega,fun h=>absurd h gB⟩
theorem ZnT(l:List Nat)(a:Option Addr)(c x:Nat)(m:Mem)(h:rowRd m a (ZbP l))(hl:l.length≤1000000000000000):CX Try.prog 29 #[.slice a l.length c,.int .i64 x] m [] (Ret (.bool (decide (x∈l)))):=by
 apply Zb3
 unfold Zbb
 refine Zaj (Ztq l a c x m h hl) (fun v _ _ ⟨z,e,_⟩=>by rw[e];rfl) ?_
 rintro z m1 aW ⟨z',hz,hx⟩
 cases hz
 exact Zac aW (by unfold Ret;congr 1;exact decide_eq_decide.2 hx)
theorem Zh2{t:T}(h:t.walks):t.good=true∨t.k=0:=h.elim .inr fun h=>.inl (List.all_eq_true.2 h)
theorem ZuR{t:T}(h:t.k=0)(s:List Nat)(i j:Nat):¬t.M s i j:=by cases t;simp only[T.k]at h;subst h;simp[T.M]
theorem Zkt{g:Nat→Bool}{n x:Nat}:x∈Zji g n↔x < n∧g x=true:=by unfold Zji;simp
theorem ZnU(g:Nat→Bool)(n:Nat):(Zji g n).Pairwise (· < ·):=List.Pairwise.filter _ List.pairwise_lt_range
theorem Zse{t:T}{s:List Nat}{i:Int}(h:¬t.wrong s.length i=0)(back:Bool):T.list t s i back=[]:=by unfold T.list;rw[if_neg h]
theorem ZuS{t:T}{s:List Nat}{i:Nat}(h:t.wrong s.length i=0):T.list t s i false=ZvO (t.M s) (s.length+1) i:=by
 obtain⟨hw,hs,_,hi⟩:=Zen h
 have e:T.list t s i false=ZrW t s i:=by unfold T.list;rw[if_pos h];rfl
 rw[e]
 rcases Zh2 hw with hg|hk
 ·refine Zd9 _ _ (Znn _) (ZnU _ _) fun x=>?_
  unfold ZvO
  rw[ZsP hg hs (by omega),Zkt,Zai]
  exact⟨fun h=>⟨by have:=Zwa hg h (by omega);omega,h⟩,fun h=>h.2⟩
 ·refine Zd9 _ _ (Znn _) (ZnU _ _) fun x=>?_
  unfold ZvO ZrW
  rw[ZhY,Zkt,Zai,ZsF hk]
  simp[ZuR hk]
theorem ZvP{t:T}{s:List Nat}{i:Nat}(h:t.wrong s.length i=0):T.list t s i true=Zwj (t.M s) (s.length+1) i:=by
 obtain⟨hw,hs,_,hi⟩:=Zen h
 have e:T.list t s i true=Zun t s i:=by unfold T.list;rw[if_pos h];rfl
 rw[e]
 rcases Zh2 hw with hg|hk
 ·refine Zd9 _ _ (Znn _) (ZnU _ _) fun x=>?_
  unfold Zwj
  rw[ZsQ hg hs (by omega),Zkt,Zai]
  exact⟨fun h=>⟨by have:=ZwV hg h;omega,h⟩,fun h=>h.2⟩
 ·refine Zd9 _ _ (Znn _) (ZnU _ _) fun x=>?_
  unfold Zwj Zun
  rw[ZhY,Zkt,Zai,ZsF hk]
  simp[ZuR hk]
theorem Zrs{t:T}{s:List Nat}(h:t.wrong s.length 0=0):T.matches t s=decide (s.length∈ZvO (t.M s) (s.length+1) 0):=by
 obtain⟨hw,hs,_,hi⟩:=Zen h
 have h0:t.wrong s.length ((0:Nat):Int)=0:=h
 rw[←ZuS h0]
 have e:T.list t s ((0:Nat):Int) false=ZrW t s 0:=by unfold T.list;rw[if_pos h0];rfl
 unfold T.matches
 rw[h,e,Bool.eq_iff_iff]
 unfold ZrW
 rw[decide_eq_true_eq,ZhY]
 simp
 intro _;omega
theorem Zo1{t:T}{s:List Nat}(h:¬t.wrong s.length 0=0):T.matches t s=false:=by
 unfold T.matches
 rw[show(t.wrong s.length 0 == 0)=false by simpa using h];rfl
end Go.Proofs.Ythiefodednaikaa
set_option linter.unusedVariables false
set_option linter.unusedSimpArgs false
namespace Go.Proofs.Ythiefodednaikaa
open Go Go.Eng Go.Rx Go.Proofs Go.RowKit
set_option maxRecDepth 100000
def KnownK(m m':Mem):Prop:=∀b o v,m b o=some v→∃u,m' b o=some u
theorem KnownK.upd{m m':Mem}(h:KnownK m m')(b o:Nat)(v:Value):KnownK m (m'.upd b o [v]):=fun b' o' w hw=>by
 unfold Mem.upd
 split
 ·rename_i hc
  have e:o' - o=0:=by have:=hc.2.2;simp at this;omega
  exact⟨v,by rw[e];rfl⟩
 ·exact h b' o' w hw
theorem Zp1{m:Mem}{a:Option Addr}{l:List Nat}(h:rowRd m a (ZbP l)){k:Nat}(hk:k < l.length):∃b o v,a=some ⟨b,o,none⟩∧m b (o+k*1)=some v:=by
 rcases h with h|⟨b,o,e,hr⟩
 ·have:l=[]:=by simpa[ZbP]using h
  rw[this]at hk;simp at hk
 ·exact⟨b,o,_,e,by rw[Nat.mul_one];exact hr k _ (by rw[ZbP,List.getElem?_map,List.getElem?_eq_getElem hk];rfl)⟩
theorem Ztr{b:Bool}{n:Int}:∀(v:Value)(m':Mem) (css:List (List Value)),Ret (.tuple #[.bool b,.int .i64 n]) v m' css→Shape.fits (.tup [.bool,.int .i64]) v=true:=fun v _ _ h=>by rw[h];rfl
set_option maxHeartbeats 3200000 in
theorem Zts(t:T)(s:List Nat)(sa:Option Addr)(sc:Nat)(i:Int)(m:Mem)(hr:Rep m t)(bW:t.nodes.length≤200)(hb:Byt m sa s)(hs:s.length≤30):
  CX Try.prog 23 #[t.v,.slice sa s.length sc,.int .i64 i] m [] (Ret (.bool true)):=by
 apply Zis
 unfold Zfg
 intro b m1 aW eL _ _
 have dG:m1 b 0=some (.int .u8 t.k):=eL 0 _ rfl
 refine Zaj (Zrk t m1 (hr.mono aW) (by omega)) (fun v _ _ ⟨_,h,_⟩=>by rw[h];rfl) ?_
 rintro cs m2 aY ⟨cs',hv,qy⟩
 have hv:Value.agg (Array.mk cs)=.agg cs'.toArray:=hv
 simp only[Value.agg.injEq,Array.mk.injEq]at hv
 subst hv
 have iB:=Mem.le_trans aW aY
 refine Zaj (ZoY s sa sc m2 (hb.mono iB) (by omega)) ZoX ?_
 rintro a2 n2 c2 m3 bQ ⟨a',c',hv,qz⟩
 simp only[Value.slice.injEq]at hv
 obtain⟨rfl,rfl,rfl⟩:=hv
 intro b1
 have sG:=Mem.le_trans iB bQ
 have lu:=qy.mono bQ
 refine Zaa (by rw[lu.len,Zmj lu.one];rfl) ⟨fun j _ _=>if j=3 then Ret (.int .i64 (t.wrong s.length i))else Ret (.int .i64 (t.wrong s.length 0)),Ret (.int .i64 (t.wrong s.length i)),rfl,Zgs t cs sa s.length sc i m3 lu,(fun v _ _ h=>by rw[h];rfl),?_⟩
 intro n1 m4 cG lj
 have lj:Value.int .i64 n1=.int .i64 (t.wrong s.length i):=lj
 simp only[Value.int.injEq,true_and]at lj
 subst lj
 refine⟨Ret (.int .i64 (t.wrong s.length 0)),rfl,Zgs t cs sa s.length sc 0 m4 (lu.mono cG),(fun v _ _ h=>by rw[h];rfl),?_⟩
 intro n5 m5 cP kU
 have kU:Value.int .i64 n5=.int .i64 (t.wrong s.length 0):=kU
 simp only[Value.int.injEq,true_and]at kU
 subst kU
 intro M cY cT gO
 have kT:=Mem.le_trans sG cY
 have mS:M b 0=some (.int .u8 t.k):=cY _ _ _ (bQ _ _ _ (aY _ _ _ dG))
 have np:=lu.mono cY
 have pN:=hr.mono kT
 have qA:=hb.mono kT
 have nq:=qz.mono cY
 clear cT gO qy lu qz
 refine⟨fun xs _ _ m' q=>∃k:Nat,k≤2∧xs=[.int .i64 k]∧M.le m'∧q=2 - k,⟨_,0,by omega,rfl,Mem.le_refl _,rfl⟩,?_⟩
 rintro z m6 q _ ⟨k,hk,hz,dJ,hq⟩
 obtain rfl:z=k:=by simpa using hz
 subst hq
 refine ZaR (fun bA=>?_) (fun cM=>Zac (Mem.le_trans kT dJ) rfl)
 have aX:k < 2:=by omega
 refine Zaj (ZfJ t a2 s c2 m6 (pN.mono dJ) (fun _=>nq.mono dJ)) Ztr ?_
 intro b2 e1 m7 dZ hv
 have hv:Value.tuple #[.bool b2,.int .i64 e1]=.tuple #[.bool (T.matches t s),.int .i64 (t.wrong s.length 0)]:=hv
 simp only[Value.tuple.injEq,Array.mk.injEq,List.cons.injEq,Value.bool.injEq,Value.int.injEq,true_and,and_true]at hv
 obtain⟨rfl,rfl⟩:=hv
 have mr:=Mem.le_trans dJ dZ
 refine Zaj (Ztp t a2 s c2 i m7 (pN.mono mr) (fun _=>nq.mono mr)) ZfN ?_
 rintro a14 n6 c14 e2 m8 nj ⟨ap,cp,hv,hP,sH⟩
 simp only[Value.tuple.injEq,Array.mk.injEq,List.cons.injEq,Value.slice.injEq,Value.int.injEq,true_and,and_true]at hv
 obtain⟨⟨rfl,rfl,rfl⟩,rfl⟩:=hv
 have ln:=Mem.le_trans mr nj
 refine Zaj (ZoW t a2 s c2 i m8 (pN.mono ln) (fun _=>nq.mono ln)) ZfN ?_
 rintro a17 n8 c17 e3 m9 mq ⟨aq,cq,hv,hQ,sI⟩
 simp only[Value.tuple.injEq,Array.mk.injEq,List.cons.injEq,Value.slice.injEq,Value.int.injEq,true_and,and_true]at hv
 obtain⟨⟨rfl,rfl,rfl⟩,rfl⟩:=hv
 have jZ:=Mem.le_trans ln mq
 have qB:=hP.mono mq
 have qC:∀back,(T.list t s i back).length≤513:=fun back=>by unfold T.list;split;exact Zl9 _;simp
 have s5:=qC false
 have s6:=qC true
 have neq:∀x:Int,(!(x == x))=false:=fun x=>by simp
 have mM:∀j:Int,t.wrong s.length j=0→t.good=true∨t.k=0:=fun j h=>Zh2 (Zen h).1
 have hT:∀j:Int,t.wrong s.length j=0→∀mm,M.le mm→∀m',mm.le m'→CX Try.prog 87 #[.agg cs.toArray,.slice sa s.length sc] m' [] (ZnQ m' (ZjY (t.M s)) (s.length+1)):=fun j hj mm eH m' hm'=>Zrr s sa sc (by omega) t cs m' (np.mono (Mem.le_trans eH hm')) (mM j hj) (qA.mono (Mem.le_trans eH hm'))
 refine⟨false,Zhi (neq _) (Zhi (neq _) (Zhi (neq _) (Zah (Zo0 s a2 sa c2 sc m9 (nq.mono jZ) (qA.mono jZ)) fun m10 eN=>⟨by trivial,rfl⟩))),Zhi rfl ⟨false,?_,Zhi rfl ⟨false,?_,Zhi rfl ⟨false,?_,Zhi rfl ?_⟩⟩⟩⟩
 ·have no:¬t.wrong s.length i=0→[Value.bool (!(IntKind.i64.wrap (((T.list t s i false).length:Int)+((T.list t s i true).length:Int)) == 0))]=[Value.bool false]:=fun h=>by rw[Zse h,Zse h];rfl
  refine Zab (fun h=>Zhi (Zo1 (fun e=>by rw[e]at h;cases h)) (Zab (fun h2=>⟨by trivial,no fun e=>by rw[e]at h2;cases h2⟩) (fun _=>⟨by trivial,rfl⟩))) (fun _=>Zab (fun h2=>⟨by trivial,no fun e=>by rw[e]at h2;cases h2⟩) (fun _=>⟨by trivial,rfl⟩))
 ·refine ZcV (fun h0=>?_) (fun _=>⟨by trivial,rfl⟩)
  refine Zaj (Zle np.len (hT 0 h0 m9 jZ) (i:=0) (by omega) (by omega)) Zks ?_
  rintro a20 n20 c20 m10 eN ⟨a21,c21,hv,hE⟩
  simp only[Value.slice.injEq]at hv
  obtain⟨rfl,rfl,rfl⟩:=hv
  have nm:=Zml (fun j=>ZjY (t.M s) 0 j) (s.length+1)
  refine Zah (ZnT _ _ _ s.length m10 hE (by unfold ZvO;omega)) fun m11 gn=>⟨by trivial,?_⟩
  rw[Zrs h0]
  simp
 ·refine ZcV (fun h0=>?_) (fun _=>⟨by trivial,rfl⟩)
  obtain⟨_,_,mj,eW⟩:=Zen h0
  obtain⟨n,rfl⟩:∃n:Nat,i=n:=⟨i.toNat,by omega⟩
  refine Zaj (Zle np.len (hT n h0 m9 jZ) (i:=n) (by omega) (by omega)) Zks ?_
  rintro a20 n20 c20 m10 eN ⟨a21,c21,hv,hE⟩
  simp only[Value.slice.injEq]at hv
  obtain⟨rfl,rfl,rfl⟩:=hv
  have e1:=ZuS h0
  rw[←e1]at hE ⊢
  refine Zah (Zdz _ _ _ _ _ _ m10 (qB.mono eN) hE (by omega)) fun m11 gn=>?_
  refine Zhi (by simp) ?_
  have pO:=Mem.le_trans jZ (Mem.le_trans eN gn)
  refine Zaj (ZlT np.len (hT n h0 m11 pO) (j:=n) (by omega) (by omega)) Zks ?_
  rintro a22 n22 c22 m12 gC ⟨a23,c23,hv,hF⟩
  simp only[Value.slice.injEq]at hv
  obtain⟨rfl,rfl,rfl⟩:=hv
  have e2:=ZvP h0
  rw[←e2]at hF ⊢
  refine Zah (Zdz _ _ _ _ _ _ m12 (hQ.mono (Mem.le_trans eN (Mem.le_trans gn gC))) hF (by omega)) fun m13 gN=>⟨by trivial,by simp⟩
 ·refine⟨fun xs _ _ m' q=>∃x:Nat,x≤(T.list t s i false).length∧xs=[.int .i64 x]∧M.le m'∧KnownK m9 m'∧q=(T.list t s i false).length - x,⟨_,0,Nat.zero_le _,rfl,jZ,fun _ _ v h=>⟨v,h⟩,rfl⟩,?_⟩
  rintro z m10 q _ ⟨x,hx,hz,eN,jf,hq⟩
  obtain rfl:z=x:=by simpa using hz
  subst hq
  refine ZaR (fun eM=>?_) (fun iq=>?_)
  ·have hx':x < (T.list t s i false).length:=by omega
   obtain⟨b7,o7,v7,e7,h7⟩:=Zp1 qB hx'
   obtain⟨u7,h8⟩:=jf _ _ _ h7
   have hf:M.free b7:=ZcC mr (sH b7 o7 e7)
   rw[Int.toNat_natCast]
   exact⟨b7,o7,e7,⟨by omega,by omega⟩,ZnR h8,ZcC kT hf,by trivial,ZuW mS (Mem.le_refl _) hf,by trivial,_,by omega,x+1,by omega,by rw[Zan (by omega) (by omega)];rfl,Mem.le_upd eN hf _ _,jf.upd _ _ _,rfl⟩
  ·refine⟨fun xs _ _ m' q=>∃y:Nat,y≤(T.list t s i true).length∧xs=[.int .i64 y]∧M.le m'∧KnownK m9 m'∧q=(T.list t s i true).length - y,⟨_,0,Nat.zero_le _,rfl,eN,jf,rfl⟩,?_⟩
   rintro z m11 q _ ⟨y,hy,hz,gn,mN,hq⟩
   obtain rfl:z=y:=by simpa using hz
   subst hq
   refine ZaR (fun ir=>?_) (fun sJ=>?_)
   ·have hy':y < (T.list t s i true).length:=by omega
    obtain⟨b7,o7,v7,e7,h7⟩:=Zp1 hQ hy'
    obtain⟨u7,h8⟩:=mN _ _ _ h7
    have hf:M.free b7:=ZcC ln (sI b7 o7 e7)
    rw[Int.toNat_natCast]
    exact⟨b7,o7,e7,⟨by omega,by omega⟩,ZnR h8,ZcC kT hf,by trivial,ZuW mS (Mem.le_refl _) hf,by trivial,_,by omega,y+1,by omega,by rw[Zan (by omega) (by omega)];rfl,Mem.le_upd gn hf _ _,mN.upd _ _ _,rfl⟩
   ·exact⟨by trivial,_,by omega,k+1,by omega,by rw[Zan (by omega) (by omega)];rfl,gn,rfl⟩
theorem ZiI(t:T)(s:List Nat)(sa:Option Addr)(n sc:Nat)(i:Int)(m:Mem)(hr:RepW m t)(hn:n=s.length)(hb:Byt m sa s):
  CX Try.prog 5 #[t.v,.slice sa n sc,.int .i64 i] m [] (Ret (.bool true)):=by
 subst hn
 apply ZdX
 unfold Zb9
 intro b m1 aW _
 refine⟨true,?_,Zac aW rfl⟩
 refine ZaB (ZvJ t 200 m1 (hr.mono aW) (by omega) (by omega)) fun m2 aY=>ZaR (fun h=>?_) (fun h=>?_)
 ·exact Zah (Zmi m2) fun m3 bQ=>⟨by trivial,rfl⟩
 have bW:t.nodes.length≤200:=by
  unfold ZqS at h
  split at h <;> omega
 have iB:=Mem.le_trans aW aY
 refine ZaR (fun h2=>?_) (fun h2=>?_)
 ·exact Zah (Zmi m2) fun m3 bQ=>⟨by trivial,rfl⟩
 refine Zah (Zts t s sa sc i m2 (ZpK t (by omega) (hr.mono iB)) bW (hb.mono iB) (by omega)) fun m3 bQ=>?_
 exact Zab (fun _=>Zah (Zmi m3) fun m4 cG=>⟨by trivial,rfl⟩) (fun h=>by cases h)
end Go.Proofs.Ythiefodednaikaa
set_option linter.unusedVariables false
set_option linter.unusedSimpArgs false
namespace Go.Proofs.Ythiefodednaikaa
open Go Go.Eng Go.Rx Go.Proofs Go.RowKit Go.ChangeShapes Go.WideShapes Go.ChangeAt
set_option maxRecDepth 100000
theorem ZiJ(H:Type)(enc:TypeId×Value→H)(W:World)(base:Nat)(args:Array Value)(ds gs:List (DataW H))(before:List MemPlace)
  (gp:∀(j:Nat) t v,Try.f5.params[j]?=some t→args[j]?=some v→Value.okWide Try.prog W .any base t v)
  (hW:DataW.Whole enc Try.prog Try.f5.params.toList Rows.denoteTellsSpec.vars false W args.toList ds gs before):
  Calls Try.prog 5 args W fun e W'=>∃v,e=.returned v∧Rows.denoteTellsSpec.post enc Try.prog Try.f5 false true false false W args v W':=by
 have hW':=hW
 obtain⟨p,q,sK,hV,rfl,iC,dQ⟩:=hW
 have hA:DataW.TrodAll enc Try.prog W 0 (fun _=>true) true Try.f5.params.toList args.toList ds p:=sK
 rw[Try.params5]at hA gp
 obtain⟨v0,vs0,d0,ds0,p0,q0,a0,rfl,rfl,h0,r0⟩:=trodAll_cons hA
 obtain⟨v1,vs1,d1,ds1,p1,q1,rfl,rfl,rfl,h1,r1⟩:=trodAll_cons r0
 obtain⟨v2,vs2,d2,ds2,p2,q2,rfl,rfl,rfl,h2,r2⟩:=trodAll_cons r1
 obtain⟨rfl,rfl,rfl⟩:=trodAll_nil r2
 obtain rfl:args=#[v0,v1,v2]:=by cases args;simp_all
 obtain⟨rfl,rfl⟩:=trodVars_none hV
 obtain⟨t,rfl,hr⟩:=Zri (gp 0 _ v0 rfl rfl) h0
 obtain⟨s,sa,sc,rfl,hs,_,_⟩:=ZuN (gp 1 _ v1 rfl rfl) h1
 obtain⟨i,rfl,_,_,_⟩:=Go.ChangeShapes.open_int Try.underlying3 (gp 2 _ v2 rfl rfl) h2
 exact ZqF (tb:=4) ZuL (by rw[Try.params5];intro t ht;simp at ht;rcases ht with rfl|rfl|rfl <;> exact⟨by kernel_rfl,of_decide_eq_true (by kernel_rfl)⟩) hW' rfl rfl rfl rfl rfl Try.underlying4 (ZiI t s sa s.length sc i (ZrK W) hr rfl hs)
theorem ZlU(os:Os)(started:os.Started)(H:Type)(enc:TypeId×Value→H):
  ReturnsInHanded {} Try.checked os 5 .any (Rows.denoteTellsSpec.pre6 enc Try.prog Try.f5 Rows.denoteTellsRow.domain false) (Rows.denoteTellsSpec.post enc Try.prog Try.f5 false true false false):=by
 refine returnsInHanded_of_change (C:=Try.checked) ZvG started (by kernel_rfl) Try.func5
  (ChangeSpec.witness6 (enc:=enc) (C:=Try.checked) false ⟨#[],#[.agg #[.int .u8 0,.int .u64 0,.int .u64 0,.int .u64 0,.int .u64 0,.int .i64 0,.int .i64 0,.slice none 0 0],.slice none 0 0,.int .i64 0],[]⟩ 8 (by kernel_rfl) (by kernel_rfl) (by kernel_rfl) (by kernel_rfl)) ?_
 intro W base args ds gs before gp hW _ _
 exact ZiJ H enc W base args ds gs before gp hW
theorem tells_holds:Rows.DenoteTellsSaid:=
 OpenClaim.holds_of_wide 5 Try.f5 rfl rfl rfl rfl rfl rfl rfl ⟨rfl,rfl,rfl,rfl,rfl⟩ rfl rfl rfl rfl rfl (by kernel_rfl) Try.func5 (by kernel_rfl)
  (of_decide_eq_true (by kernel_rfl)) (by unfold Func.isWrapper;first|(rw[if_pos (by decide +kernel)];kernel_rfl)|(rw[if_neg (by decide +kernel)];exact⟨rfl,rfl⟩))
  (fun os started H enc _=>ZlU os started H enc)
#print axioms tells_holds
end Go.Proofs.Ythiefodednaikaa
