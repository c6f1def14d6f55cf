/- Part of the proof: functions of the program. No condition. -/
import Derived.Test.YtpjepnkiiojgfaaGreatPC25D
import Derived.Test.YtpjepnkiiojgfaaGreatPC25MJ
import Derived.Test.YtpjepnkiiojgfaaGreatPVEA
import Derived.Test.YtpjepnkiiojgfaaGreatPVM
import Derived.Test.YtpjepnkiiojgfaaGreatMr
import Derived.Shelf.Sort.Plain
import Derived.Shelf.Slices.In.SortNone
import Derived.Shelf.SlicesE.Compact
set_option linter.unusedVariables false
set_option linter.unusedSimpArgs false
set_option linter.unusedSectionVars false
namespace Go.Proofs.YtpjepnkiiojgfaaGreat
open Go Go.Eng Go.Rx Go.Proofs Go.RowKit
set_option maxRecDepth 100000
theorem Zeh(m:Mem)(b:Nat)(cs:List Value):(m.add b cs).reads b 0 cs:=λj u hu=>by rw[Mem.add_same,Nat.zero_add];exact hu
abbrev Yn(v:Value):Nat->Prop:=λb=>(Tok.mk v 1).blk=some b
theorem Zyk{m m':Mem}{Y Y1:Nat->Prop}(h:(m.off Y).le m')(hn:∀b,Y1 b->Y b\/(m.free b/\m.k b=none)):(m.off Y).le (m'.off Y1):=by
 have no:∀b,Y1 b->(∀o,m.off Y b o=none)/\(m.off Y).k b=none:=λb hb=>by
  by_cases hY:Y b
  ·exact⟨Mem.off_free hY,Mem.off_kn hY⟩
  ·rcases hn b hb with h1|⟨h1,h2⟩
   ·exact absurd h1 hY
   ·exact⟨λo=>by rw[Mem.off_at hY];exact h1 o,by rw[Mem.off_k hY];exact h2⟩
 refine⟨λb o v hv=>?_,λb e he=>?_⟩
 ·by_cases hb:Y1 b
  ·rw[(no b hb).1 o]at hv;cases hv
  ·rw[Mem.off_at hb];exact h.c b o v hv
 ·by_cases hb:Y1 b
  ·rw[(no b hb).2]at he;cases he
  ·rw[Mem.off_k hb];exact h.k b e he
theorem Zux{m m':Mem}(h:m.le m'){b:Nat}(hf:m'.free b/\m'.k b=none):m.free b/\m.k b=none:=by
 refine⟨λo=>?_,?_⟩
 ·cases e:m b o with
  | none=>rfl
  | some v=>have:=h.c b o v e;rw[hf.1 o]at this;cases this
 ·cases e:m.k b with
  | none=>rfl
  | some v=>have:=h.k b v e;rw[hf.2]at this;cases this
structure NmSt (m:Mem)(v0:Value)(m':Mem)(a:Option Addr)(c:Nat)(l:List ByteArray):Prop where
 row:rowRd m' a (Zcb l)
 base:(m.off (Yn v0)).le (m'.off (Yn (.slice a l.length c)))
 new:∀b,Yn (.slice a l.length c) b->Yn v0 b\/(m.free b/\m.k b=none)
def NmR(v0:Value)(m:Mem)(l:List ByteArray):RTY:=λv m' css tvs=>∃a c,v=.slice a l.length c/\tvs=[.slice a l.length c]/\rowRd m' a (Zcb l)/\∀b,Yn (.slice a l.length c) b->Yn v0 b\/(m.free b/\m.k b=none)
theorem ZvZ{v0 m l}:∀(v:Value)(m':Mem) (css:List (List Value)) (tvs:List Value),NmR v0 m l v m' css tvs->Shape.fits .slice v=true:=λv _ _ _ ⟨_,_,e,_⟩=>by rw[e];rfl
theorem NmSt.step{m m' m'':Mem}{v0:Value}{a a':Option Addr}{c c':Nat}{l l':List ByteArray}(h:NmSt m v0 m' a c l)(cy:(m'.off (Yn (.slice a l.length c))).le m'')(hr:rowRd m'' a' (Zcb l'))(hn:∀b,Yn (.slice a' l'.length c') b->Yn (.slice a l.length c) b\/(m'.free b/\m'.k b=none)):NmSt m v0 m'' a' c' l':=by
 refine⟨hr,mLt h.base (Zyk cy hn),λb hb=>?_⟩
 rcases hn b hb with h1|h1
 ·exact h.new b h1
 ·by_cases hY:Yn v0 b
  ·exact .inl hY
  ·have h2:=Zux h.base (b:=b) ⟨λo=>by
    by_cases dt:Yn (.slice a l.length c) b
    ·exact Mem.off_free dt o
    ·rw[Mem.off_at dt];exact h1.1 o,by
    by_cases dt:Yn (.slice a l.length c) b
    ·exact Mem.off_kn dt
    ·rw[Mem.off_k dt];exact h1.2⟩
   refine .inr ⟨λo=>?_,?_⟩
   ·have:=h2.1 o;rwa [Mem.off_at hY]at this
   ·have:=h2.2;rwa [Mem.off_k hY]at this
theorem Zei(l:List ByteArray):(Zcb l).length=l.length:=by unfold Zcb;exact List.length_map _
theorem ZoF(t:E):∀(out:List ByteArray)(a:Option Addr)(c:Nat)(m:Mem),rowRd m a (Zcb out)->RepE (m.off (Yn (.slice a out.length c))) t->(t.names out).length<=1000000->
  CXY Tryz.prog 142 #[.slice a out.length c,t.v] m (Yn (.slice a out.length c)) [] [⟨.slice a out.length c,1⟩] (NmR (.slice a out.length c) m (t.names out)):=by
 intro out a c m ho hr h1
 have eQ:=ZqI t out
 have uQ:RepE m t:=RepE.mono (Mem.off_le m _) t hr
 apply Zf7
 intro b m1 aG _ fO _
 refine Zab (λhk=>?_) (λhk=>?_)
 ·have sW:t.k=9:=by simpa using hk
  have hN:=ZnI t out
  rw[if_pos sW]at hN
  have hE:(out.any λy=>eqS t.s y)=out.any λy=>y.toList == t.s.toList:=by
   congr 1;funext w;unfold eqS;exact Bool.beq_comm
  refine Zah (ZgZ out a c t.s m1 (by omega) (ho.mono aG)) λm2 aK=>Zab (λh=>?_) (λh b2 hf=>?_)
  ·rw[hE]at h
   rw[hN,h,if_pos rfl]
   exact⟨a,c,rfl,rfl,ho.mono (mLt aG aK),λb hb=>.inl hb⟩
  ·rw[hE]at h
   rw[h,if_neg (by decide)]at hN
   have cy:m2.le (m2.add b2 [.string t.s]):=Mem.le_add hf _
   have cV:=mLt aG (mLt aK cy)
   rw[hN,zA1,List.length_singleton]at h1
   refine⟨.inl rfl,Zcb out,[.string t.s],by rw[Zei];omega,rfl,ho.mono cV,.inr ⟨b2,0,rfl,Zeh m2 b2 _⟩,λu hu=>?_,by omega,by omega,λa' c' m3 aR aC hT=>?_⟩
   ·obtain rfl:u=.string t.s:=by simpa using hu
    rfl
   ·rw[hN]
    have e:(out++[t.s]).length=out.length+1:=by rw[zA1];rfl
    refine⟨a',c',by rw[e],by rw[e],by unfold Zcb at aC ⊢;rw[List.map_append];exact aC,λb' hb'=>?_⟩
    rcases hT.2 with h|⟨bb,oo,ha',h⟩
    ·rw[h]at hb';simp[Yn,Tok.blk]at hb'
    ·subst ha'
     obtain rfl:bb=b':=by simpa[Yn,Tok.blk]using hb'
     rcases h with h|⟨_,h2,h3⟩
     ·left;rw[h];simp[Yn,Tok.blk]
     ·exact .inr (Zux cV ⟨h2,h3⟩)
 ·have sW:¬t.k=9:=by simpa using hk
  have hN:=ZnI t out
  rw[if_neg sW]at hN
  rw[hN]at h1 ⊢
  have sX:=Zdg hr
  refine⟨λxs _ tks m' q=>∃(i:Nat)(a':Option Addr)(c':Nat),i<=t.subs.length/\xs=[.slice a' (ZbG (t.subs.take i) out).length c',.int .i64 i]/\tks=[.slice a' (ZbG (t.subs.take i) out).length c']/\NmSt m (.slice a out.length c) m' a' c' (ZbG (t.subs.take i) out)/\q=t.subs.length - i,
   ⟨_,0,a,c,by omega,by rw[List.take_zero];rfl,by rw[List.take_zero];rfl,by
    rw[List.take_zero]
    exact⟨ho.mono aG,Zyk (mLt (Mem.off_le m _) aG) λb hb=>.inl hb,λb hb=>.inl hb⟩,rfl⟩,?_⟩
  rintro a1 n1 c1 n a2 n2 c2 m2 q aK ⟨i,a',c',hi,hx,ht,hS,hq⟩
  simp only[List.cons.injEq,Value.slice.injEq,Value.int.injEq,and_true,true_and]at hx ht
  obtain⟨⟨ea,en,ec⟩,rfl⟩:=hx
  obtain⟨ea',en',ec'⟩:=ht
  subst a1 n1 c1 a2 n2 c2 q
  refine Zab (λaB=>?_) (λbO=>?_)
  ·have aJ:i < t.subs.length:=by have:=zA6 aB;omega
   obtain⟨x,hx⟩:=Zfi aJ
   have cJ:=zA2 hx
   have bJ:=ZgH cJ
   rcases sX.2 with h|⟨b1,o1,ha,dU⟩
   ·rw[h]at aJ;simp at aJ
   obtain⟨dd,dz⟩:=(dU.mono' hS.base).get hx
   have dd:=dd.mono (Mem.off_le m2 _)
   have hw:IntKind.i64.wrap ((i:Int)+1)=((i+1:Nat):Int):=by rw[Zal (by omega) (by omega)];rfl
   have lU:=ZpE hx out
   have oU:=Zsu (l:=t.subs) (i:=i+1) out
   refine⟨b1,o1,ha,⟨by omega,by omega⟩,_,_,_,_,_,dd,λb2=>Zaa rfl ?_⟩
   refine⟨_,_,ZoF x (ZbG (t.subs.take i) out) a' c' m2 hS.row dz (by rw[<-lU];omega),λt' ht' bb dT=>?_,λbb dT=>.inl ⟨_,by simp,dT⟩,ZvZ,?_⟩
   ·obtain rfl:t'=_:=by simpa using ht'
    exact dT
   ·rintro a3 n3 c3 m3 aR _ a4 c4 d4 ⟨a5,c5,hv,cQ,cw,lW⟩
    simp only[Value.slice.injEq]at hv
    obtain⟨e1,e2,e3⟩:=hv
    subst a3 n3 c3
    simp only[List.cons.injEq,Value.slice.injEq,and_true]at cQ
    obtain⟨e1,e2,e3⟩:=cQ
    subst a4 c4 d4
    rw[<-lU]at cw lW ⊢
    refine⟨rfl,rfl,t.subs.length - (i+1),by omega,i+1,a5,c5,by omega,by rw[hw],rfl,hS.step aR cw lW,rfl⟩
  ·have hi':i=t.subs.length:=by have:=of_decide_eq_false bO;omega
   subst hi'
   rw[List.take_length]at hS ⊢
   exact⟨a',c',rfl,rfl,hS.row,hS.new⟩
termination_by SizeOf.sizeOf t
decreasing_by exact bJ
theorem Zyl{P:Program}{g:FuncId}{args:Array Value}{m:Mem}{esz:Nat}{R:RTY}(h:CXY P g args m (Yn (.slice none 0 0)) [] [⟨.slice none 0 0,esz⟩] R):CX P g args m [] (λv m' css=>∃tvs,R v m' css tvs):=by
 have hY:∀b,¬Yn (.slice none 0 0) b:=λb hb=>by simp[Yn,Tok.blk]at hb
 have fc:m.le (m.off (Yn (.slice none 0 0))):=⟨λb o v hv=>by rw[Mem.off_at (hY b)];exact hv,λb e he=>by rw[Mem.off_k (hY b)];exact he⟩
 refine⟨h.1,λw h1 h2 h3=>(h.2 w h1 (by simp) (by simp) (λt ht=>?_) (λi j t t' b hi hj hb=>?_) (λb hb=>absurd hb (hY b))).mono ?_⟩
 ·obtain rfl:t=_:=by simpa using ht
  exact⟨.inl rfl,λb hb=>by simp[Tok.blk]at hb⟩
 ·intro _
  have hi:=zA2 hi
  obtain rfl:t=_:=by simpa using hi
  simp[Tok.blk]at hb
 ·rintro e w' ⟨v,m',css,tvs,a1,a2,a3,a4,a5,a6,a7,a8,a9,a10,a11⟩
  exact⟨v,m',css,a1,mLt fc a2,a3,a4.mono λb hb=>hb.resolve_left (hY b),⟨a5.os,a5.tape,a5.output,a5.size,λk hk _=>a5.block k hk (λhm=>hm.elim (by simp) (hY k)),a5.wr⟩,a6,a7,tvs,a11⟩
def Zym(l:List ByteArray):Value->Mem->List (List Value)->Prop:=λv m' _=>∃a c,v=.slice a l.length c/\rowRd m' a (Zcb l)
theorem ZoG{l}:∀(v:Value)(m':Mem) (css:List (List Value)),Zym l v m' css->Shape.fits .slice v=true:=λv _ _ ⟨_,_,e,_⟩=>by rw[e];rfl
theorem Zv0(t:E)(m:Mem)(hr:RepE m t):CX Tryz.prog 109 #[t.v] m [] (Zym t.vars):=by
 apply ZlL
 intro b m1 aG _
 refine Zah (ZcW t m1 (RepE.mono' hr aG)) λm2 aK=>Zab (λh=>Zaf (mLt aG aK) ?_) (λh=>?_)
 ·have hl:t.light=false:=by simpa using h
  have:t.vars=[]:=by unfold E.vars;rw[hl];rfl
  rw[this]
  exact⟨none,0,rfl,.inl rfl⟩
 ·have hl:t.light=true:=by simpa using h
  have hv:t.vars=t.names []:=by unfold E.vars;rw[hl];rfl
  have h1:(t.names []).length<=1000000:=by
   have h2:=Zd8 t []
   have h3:=zA6 (show decide (t.nodes.length<=10000)=true from hl)
   simp only[List.length_nil]at h2
   omega
  rw[hv]
  have fc:m2.le (m2.off (Yn (.slice none 0 0))):=⟨λb o v hv=>by rw[Mem.off_at (λhb=>by simp[Yn,Tok.blk]at hb)];exact hv,λb e he=>by rw[Mem.off_k (λhb=>by simp[Yn,Tok.blk]at hb)];exact he⟩
  have key:=Zyl (ZoF t [] none 0 m2 (.inl rfl) (RepE.mono' hr (mLt aG (mLt aK fc))) h1)
  refine Zan key (λv m' css ⟨_,_,_,e,_⟩=>by rw[e];rfl) ?_
  rintro a n c m3 aR ⟨tvs,a',c',hv',_,aC,_⟩
  simp only[Value.slice.injEq]at hv'
  obtain⟨rfl,rfl,rfl⟩:=hv'
  exact ZaN (mLt aG (mLt aK aR)) ⟨_,_,rfl,aC⟩
theorem ZoH(e:E)(m:Mem)(he:RepE m e):CX Tryz.prog 60 #[e.v] m [] (Ret (.int .i64 (nE e))):=by
 apply ZlV
 intro b m1 aG _
 refine Zah (ZcW e m1 (RepE.mono' he aG)) λm2 aK=>Zab (λh=>Zaf (mLt aG aK) ?_) (λh=>?_)
 ·have hl:e.light=false:=by simpa using h
  unfold nE;rw[hl];rfl
 ·have hl:e.light=true:=by simpa using h
  exact ZcQ (ZvJ e m2 (RepE.mono' he (mLt aG aK))) λm3 aR=>Zaf (mLt aG (mLt aK aR)) (by unfold nE;rw[hl];rfl)
set_option maxHeartbeats 4000000 in
def CntW(b n p:Int):Prop:=0<=n/\n<=b/\(n=p\/(20000 < n/\20000 < p))
theorem CntW.out{b n p t:Int}(h:CntW b n p)(hn:n > 20000)(ht:p<=t):t > 20000:=by
 rcases h.2.2 with e|⟨_,e⟩ <;> omega
theorem CntW.eq{b n p:Int}(h:CntW b n p)(hn:¬n > 20000):n=p:=by
 rcases h.2.2 with e|⟨e,_⟩ <;> omega
theorem Zcc(s:Sc)(m:Mem)(hr:RepC m s):CX Tryz.prog 19 #[s.v] m [] (Ret (.bool s.light)):=by
 apply ZlW
 intro b m1 aG _
 have gQ:=hr.vlen
 have d5:=hr.len
 unfold few at gQ d5
 have dark:∀{M:Mem},m1.le M->s.weight > 20000->∀{n:Int},n > 20000->∃m'':Mem,m.le m''/\m''.le M/\Ret (.bool s.light) (.bool (decide (n<=20000))) m'' []:=λ{M} hM hw {n} hn=>Zaf (mLt aG hM) (by
  show Value.bool _=Value.bool s.light
  unfold Sc.light
  rw[decide_eq_false (by omega),decide_eq_false (by omega)])
 generalize hV:((s.vars.length:Int)+s.states.length)=V0
 have sY:0<=V0/\V0<=200000:=by omega
 rw[Zal (by omega) (by omega)]
 have lC:s.weight=V0+ZaF (s.states.map wS):=by unfold Sc.weight;omega
 refine⟨λxs _ _ m' q=>∃(i:Nat)(n:Int),i<=s.states.length/\xs=[.int .i64 n,.int .i64 i]/\CntW 300000 n (V0+ZaF ((s.states.take i).map wS))/\q=s.states.length - i,⟨_,0,V0,by omega,rfl,⟨by omega,by omega,.inl (by simp[ZaF])⟩,rfl⟩,?_⟩
 rintro n k0 m2 q aK ⟨i,n',hi,hx,hC,hq⟩
 simp only[List.cons.injEq,Value.int.injEq,and_true,true_and]at hx
 obtain⟨rfl,rfl⟩:=hx
 subst hq
 have gJ:IntKind.i64.wrap ((i:Int)+1)=((i+1:Nat):Int):=by rw[Zal (by omega) (by omega)];rfl
 simp only[gJ,zA8]
 refine ZaB (λaB=>?_) (λbO=>?_)
 ·have aJ:i < s.states.length:=by omega
  obtain⟨x,hx⟩:=Zfi aJ
  have lK:=zA2 hx
  obtain⟨b1,o1,ha,dZ⟩:=Zaj Sta.len ((hr.mono (mLt aG aK)).row) hx (by omega)
  have dd:=hr.all x lK
  have kR:=dd.len
  unfold few at kR
  refine⟨b1,o1,ha,⟨by omega,by omega⟩,_,_,dZ,λb2=>Zaa rfl (Zaa rfl ?_)⟩
  generalize mo:V0+ZaF ((s.states.take i).map wS)=P0 at hC
  have uR:V0+ZaF ((s.states.take (i+1)).map wS)=P0+wS x:=by rw[ZfJ wS hx];omega
  have w6:P0+wS x<=s.weight:=by rw[<-uR,lC];have:=ZfK wS ZAA s.states (i+1);omega
  refine⟨λxs _ _ m' q=>∃(k:Nat)(n:Int),k<=x.rules.length/\xs=[.int .i64 n,.int .i64 k]/\CntW 300000 n (P0+ZaF ((x.rules.take k).map wR))/\q=x.rules.length - k,⟨_,0,n,by omega,rfl,by simpa[ZaF]using hC,rfl⟩,?_⟩
  rintro n1 k1 m3 q aR ⟨k,n1',hk,gz,lO,hq⟩
  simp only[List.cons.injEq,Value.int.injEq,and_true,true_and]at gz
  obtain⟨rfl,rfl⟩:=gz
  subst hq
  have gm:IntKind.i64.wrap ((k:Int)+1)=((k+1:Nat):Int):=by rw[Zal (by omega) (by omega)];rfl
  simp only[gm,zA8]
  have dA:m.le m3:=mLt aG (mLt aK aR)
  refine ZaB (λdh=>?_) (λdP=>?_)
  ·have jL:k < x.rules.length:=by have:(k:Int) < (x.rules.length:Int):=dh;omega
   obtain⟨r,ib⟩:=Zfi jL
   have uQ:=zA2 ib
   have fM:=dd.all r uQ
   obtain⟨b3,o3,ew,kW⟩:=Zaj Ru.len ((dd.row).mono dA) ib (by omega)
   have nV:=fM.len
   unfold few at nV
   generalize ym:P0+ZaF ((x.rules.take k).map wR)=P1 at lO
   have pt:P0+ZaF ((x.rules.take (k+1)).map wR)=P1+wR r:=by rw[ZfJ wR ib];omega
   have w7:P1+wR r<=s.weight:=by
    rw[<-pt]
    have:=ZfK wR Zza x.rules (k+1)
    unfold wS at w6
    omega
   refine Zaa rfl ⟨b3,o3,ew,⟨by omega,by show(k:Int) < (x.rules.length:Int);omega⟩,_,_,_,_,_,_,_,_,_,_,_,_,_,_,_,_,kW,λb4=>Zaa rfl ?_⟩
   have bJ:=ZfM r.t
   refine ZcQ (Zuo r.t m3 (fM.t.mono dA)) λm4 cE=>?_
   have iV:(if(20000:Int) < r.t.size then(20000:Int)else r.t.size)=Zgg r.t.size 20000:=rfl
   have ep:0<=Zgg r.t.size 20000/\Zgg r.t.size 20000<=20000:=by unfold Zgg;split <;> omega
   rw[iV]
   have yo:=lO.1
   have yp:=lO.2.1
   refine⟨λxs _ _ m'=>∃n:Int,xs=[.int .i64 n]/\CntW 330000 n (P1+1+Zgg r.t.size 20000+(if r.t.light then 0 else 20001)),?_,?_⟩
   ·refine Zah (ZhB r.t m4 (fM.t.mono (mLt dA cE))) λm5 cP=>Zab (λh=>⟨by trivial,20001,rfl,?_⟩) (λh=>⟨by trivial,_,rfl,?_⟩)
    ·have hl:r.t.light=false:=by simpa using h
     rw[hl,if_neg (by decide)]
     have hp:0<=P1:=by rcases lO.2.2 with e|⟨_,e⟩ <;> omega
     exact⟨by omega,by omega,.inr ⟨by omega,by omega⟩⟩
    ·have hl:r.t.light=true:=by simpa using h
     rw[hl,if_pos rfl,Zal (n:=1+Zgg r.t.size 20000) (by omega) (by omega),Zal (by omega) (by omega)]
     refine⟨by omega,by omega,?_⟩
     rcases lO.2.2 with e|⟨e1,e2⟩
     ·left;omega
     ·right;omega
   ·rintro n2 m5 cP ⟨n2',lg,sF⟩
    obtain rfl:n2=n2':=by simpa using lg
    generalize w8:P1+1+Zgg r.t.size 20000+(if r.t.light then 0 else 20001)=P2 at sF
    have fS:wR r=(P2 - P1)+ZaF (r.acts.map wA):=by unfold wR;rw[<-w8];omega
    have gV:m.le m5:=mLt dA (mLt cE cP)
    refine Zaa rfl ⟨λxs _ _ m' q=>∃(j:Nat)(n:Int),j<=r.acts.length/\xs=[.int .i64 n,.int .i64 j]/\CntW (330000+j*200000) n (P2+ZaF ((r.acts.take j).map wA))/\q=r.acts.length - j,⟨_,0,n2,by omega,rfl,by simpa[ZaF]using sF,rfl⟩,?_⟩
    rintro n3 k3 m6 q ef ⟨j,n3',hj,pu,lY,hq⟩
    simp only[List.cons.injEq,Value.int.injEq,and_true,true_and]at pu
    obtain⟨rfl,rfl⟩:=pu
    subst hq
    have w9:IntKind.i64.wrap ((j:Int)+1)=((j+1:Nat):Int):=by rw[Zal (by omega) (by omega)];rfl
    simp only[w9,zA8]
    have fC:=mLt gV ef
    have eZ:=lY.1
    have uE:=lY.2.1
    refine ZaB (λgw=>?_) (λil=>?_)
    ·have pv:j < r.acts.length:=by have:(j:Int) < (r.acts.length:Int):=gw;omega
     obtain⟨a,mY⟩:=Zfi pv
     have im:=fM.all a (zA2 mY)
     obtain⟨b5,o5,mZ,xb⟩:=Zaj Ac.len ((fM.row).mono fC) mY (by omega)
     have ia:=im.n
     unfold few at ia
     have yq:=ZfL a.e
     generalize yr:P2+ZaF ((r.acts.take j).map wA)=P3 at lY
     have sZ:P2+ZaF ((r.acts.take (j+1)).map wA)=P3+wA a:=by rw[ZfJ wA mY];omega
     have xc:P3+wA a<=s.weight:=by
      have:=ZfK wA ZqJ r.acts (j+1)
      omega
     refine Zaa rfl ⟨b5,o5,mZ,⟨by omega,by show(j:Int) < (r.acts.length:Int);omega⟩,_,_,_,_,_,_,_,_,xb,λb6=>Zaa rfl ?_⟩
     refine⟨λ_ _ _=>Ret (.int .i64 (nE a.e)),_,rfl,ZoH a.e m6 (RepE.mono' im.e fC),λv _ _ e=>by rw[show v=_ from e];rfl,λn8 m7 eo jg=>Zaa rfl λM iO fh=>Zaa rfl ?_⟩
     obtain rfl:n8=nE a.e:=by cases jg;rfl
     have s4:slN (Value.slice a.pa a.parts.length a.pc)=a.parts.length:=rfl
     rw[s4,Zal (n:=1+nE a.e) (by omega) (by omega),Zal (n:=1+nE a.e+(a.parts.length:Int)) (by omega) (by omega),Zal (by omega) (by omega)]
     have xd:wA a=(1+nE a.e+a.parts.length)+ZaF (a.parts.map λp=>nE p.e):=by unfold wA;omega
     have i5:=mLt fC iO
     refine⟨λxs _ _ m' q=>∃(w:Nat)(n:Int),w<=a.parts.length/\xs=[.int .i64 n,.int .i64 w]/\CntW (330000+(j+1)*200000) n (P3+(1+nE a.e+a.parts.length)+ZaF ((a.parts.take w).map λp=>nE p.e))/\q=a.parts.length - w,⟨_,0,_,by omega,rfl,⟨by omega,by omega,?_⟩,rfl⟩,?_⟩
     ·simp only[List.take_zero,List.map_nil,ZaF]
      rcases lY.2.2 with e|⟨e1,e2⟩
      ·left;omega
      ·right;omega
     rintro n4 k4 m8 q eA ⟨w,n4',hw,mX,na,hq⟩
     simp only[List.cons.injEq,Value.int.injEq,and_true,true_and]at mX
     obtain⟨rfl,rfl⟩:=mX
     subst hq
     have sU:IntKind.i64.wrap ((w:Int)+1)=((w+1:Nat):Int):=by rw[Zal (by omega) (by omega)];rfl
     simp only[sU,zA8]
     have nb:=mLt i5 eA
     have qD:m1.le m8:=mLt aK (mLt aR (mLt cE (mLt cP (mLt ef (mLt iO eA)))))
     have nO:=na.1
     have s6:=na.2.1
     refine ZaB (λkY=>?_) (λkZ=>?_)
     ·have pw:w < a.parts.length:=by have:(w:Int) < (a.parts.length:Int):=kY;omega
      obtain⟨p,iE⟩:=Zfi pw
      have gE:=im.all p (zA2 iE)
      obtain⟨b7,o7,s7,xe⟩:=Zaj Pt.len ((im.row).mono nb) iE (by omega)
      have yt:=ZfL p.e
      have cB:=ZfJ (λp:Pt=>nE p.e) iE
      have xf:=ZfK (λp:Pt=>nE p.e) (λp=>(ZfL p.e).1) a.parts w
      refine Zaa rfl ⟨b7,o7,s7,⟨by omega,by show(w:Int) < (a.parts.length:Int);omega⟩,_,_,_,_,_,_,_,_,xe,λb8=>Zaa rfl (ZaB (λhd=>dark qD (na.out hd (by omega)) hd) (λhd=>?_))⟩
      refine ZcQ (ZoH p.e m8 (RepE.mono' gE.e nb)) λm9 ga=>⟨by trivial,a.parts.length - (w+1),by omega,w+1,_,by omega,rfl,?_,rfl⟩
      have he:=na.eq hd
      rw[Zal (by omega) (by omega),cB]
      exact⟨by omega,by omega,.inl (by omega)⟩
     ·have hw':w=a.parts.length:=by have:¬(w:Int) < (a.parts.length:Int):=kZ;omega
      subst hw'
      rw[List.take_length]at na
      refine⟨by trivial,r.acts.length - (j+1),by omega,j+1,n4,by omega,rfl,?_,rfl⟩
      rw[sZ,xd]
      exact⟨na.1,by push_cast;omega,by rcases na.2.2 with e|e;left;omega;right;omega⟩
    ·have hj':j=r.acts.length:=by have:¬(j:Int) < (r.acts.length:Int):=il;omega
     subst hj'
     rw[List.take_length]at lY
     have kX:m1.le m6:=mLt aK (mLt aR (mLt cE (mLt cP ef)))
     refine ZaB (λhd=>dark kX (lY.out hd (by omega)) hd) (λhd=>⟨by trivial,x.rules.length - (k+1),by omega,k+1,n3,by omega,rfl,?_,rfl⟩)
     rw[pt,fS]
     exact⟨lY.1,by omega,.inl (by have:=lY.eq hd;omega)⟩
  ·have hk':k=x.rules.length:=by have:¬(k:Int) < (x.rules.length:Int):=dP;omega
   subst hk'
   rw[List.take_length]at lO
   refine⟨by trivial,s.states.length - (i+1),by omega,i+1,n1,by omega,rfl,?_,rfl⟩
   rw[uR];exact lO
 ·have hi':i=s.states.length:=by omega
  subst hi'
  rw[List.take_length,<-lC]at hC
  refine Zaf (mLt aG aK) ?_
  show Value.bool _=Value.bool s.light
  unfold Sc.light
  congr 1
  rw[decide_eq_decide]
  rcases hC.2.2 with e|⟨e1,e2⟩ <;> omega
theorem Ztf{x:List Value}{K:List Value->Prop}(h:∀y,K y):lV x K:=h x
theorem Zv1(cb:Nat)(Q:Pt->Pt->Mem->Prop)(L:List Pt)(a:Option Addr)(d:Nat)(m:Mem)(aC:rowRd m a (L.map Pt.cs).flatten)(hl:L.length<=few)(gx:∀x∈L,∀m2,m.le m2->CX Tryz.prog cb #[.agg x.cs.toArray] m2 [] (λv m3 _=>∃y:Pt,v=.agg y.cs.toArray/\Q x y (nw m2 m3))):
  CX Tryz.prog 91 #[.slice a L.length d,.func (.func cb) #[] #[]] m [] (ZqU Pt.cs Q m L):=by
 have hl:L.length<=100000:=hl
 apply ZbY (p1fi:=[]) (p1ca:=[])
 refine⟨λxs css tvs m' q=>∃(k:Nat)(a':Option Addr)(c':Nat)(L':List Pt)(μ:Nat->Mem),k<=L.length/\q=L.length - k/\xs=[.slice a' L'.length c',.int .i64 k]/\tvs=[.slice a' L'.length c']/\Each Pt.cs Q m m' (L.take k) a' c' L' μ,⟨_,0,none,0,[],_,by omega,rfl,rfl,rfl,Each.nil m⟩,?_⟩
 rintro a1 n1 c1 z a2 n2 c2 m2 q _ ⟨k,a',c',L',μ,hk,hq,cC,cQ,hE⟩
 simp only[List.cons.injEq,Value.slice.injEq,Value.int.injEq,true_and,and_true]at cC cQ
 obtain⟨⟨rfl,rfl,rfl⟩,rfl⟩:=cC
 obtain⟨rfl,rfl,rfl⟩:=cQ
 have iN:L'.length=k:=by rw[hE.len,List.length_take];omega
 refine Zab (λaB=>?_) (λbO=>?_)
 ·have aJ:k < L.length:=by have:=zA6 aB;omega
  obtain⟨x,hx⟩:=Zao aJ
  obtain⟨b,o,ha,cz⟩:=Zaj Pt.len aC hx (by omega)
  have hw:IntKind.i64.wrap ((k:Int)+1)=((k+1:Nat):Int):=by rw[Zal (by omega) (by omega)];rfl
  refine⟨b,o,ha,⟨by omega,by omega⟩,_,_,_,_,_,_,_,_,cz.mono hE.le,λb3=>Zaa rfl ⟨_,trivial,gx x (zA2 hx) m2 hE.le,(λv _ _ ⟨y,h,_⟩=>by rw[h];rfl),?_⟩⟩
  intros
  refine Ztf λys=>?_
  rintro aR ⟨y,hv,hQ⟩ b4 fy
  obtain rfl:ys=y.cs:=by simpa using hv
  have bJ:(L'.length+1)*96<=140737488355328:=by omega
  refine ZcY Pt.len Pt.one fy y (hE.row.mono aR) 96 bJ (by omega) (.inl rfl) λa5 c5 m5 cP cw aS=>?_
  have cB:=hE.step Pt.len (by omega) hx aR hQ fy cP cw aS
  exact⟨L.length - (k+1),by omega,k+1,a5,c5,L'++[y],_,by omega,rfl,by rw[hw,zA1];rfl,by rw[zA1];rfl,cB⟩
 ·have cY:k=L.length:=by have:=of_decide_eq_false bO;omega
  rw[cY,List.take_length]at hE
  exact⟨m2,hE.le,Mem.le_refl _,_,_,L',μ,rfl,hE⟩
theorem Zv2(cb:Nat)(Q:Ac->Ac->Mem->Prop)(L:List Ac)(a:Option Addr)(d:Nat)(m:Mem)(aC:rowRd m a (L.map Ac.cs).flatten)(hl:L.length<=few)(gx:∀x∈L,∀m2,m.le m2->CX Tryz.prog cb #[.agg x.cs.toArray] m2 [] (λv m3 _=>∃y:Ac,v=.agg y.cs.toArray/\Q x y (nw m2 m3))):
  CX Tryz.prog 88 #[.slice a L.length d,.func (.func cb) #[] #[]] m [] (ZqU Ac.cs Q m L):=by
 have hl:L.length<=100000:=hl
 apply Zbt (p1fi:=[]) (p1ca:=[])
 refine⟨λxs css tvs m' q=>∃(k:Nat)(a':Option Addr)(c':Nat)(L':List Ac)(μ:Nat->Mem),k<=L.length/\q=L.length - k/\xs=[.slice a' L'.length c',.int .i64 k]/\tvs=[.slice a' L'.length c']/\Each Ac.cs Q m m' (L.take k) a' c' L' μ,⟨_,0,none,0,[],_,by omega,rfl,rfl,rfl,Each.nil m⟩,?_⟩
 rintro a1 n1 c1 z a2 n2 c2 m2 q _ ⟨k,a',c',L',μ,hk,hq,cC,cQ,hE⟩
 simp only[List.cons.injEq,Value.slice.injEq,Value.int.injEq,true_and,and_true]at cC cQ
 obtain⟨⟨rfl,rfl,rfl⟩,rfl⟩:=cC
 obtain⟨rfl,rfl,rfl⟩:=cQ
 have iN:L'.length=k:=by rw[hE.len,List.length_take];omega
 refine Zab (λaB=>?_) (λbO=>?_)
 ·have aJ:k < L.length:=by have:=zA6 aB;omega
  obtain⟨x,hx⟩:=Zao aJ
  obtain⟨b,o,ha,cz⟩:=Zaj Ac.len aC hx (by omega)
  have hw:IntKind.i64.wrap ((k:Int)+1)=((k+1:Nat):Int):=by rw[Zal (by omega) (by omega)];rfl
  refine⟨b,o,ha,⟨by omega,by omega⟩,_,_,_,_,_,_,_,_,cz.mono hE.le,λb3=>Zaa rfl ⟨_,trivial,gx x (zA2 hx) m2 hE.le,(λv _ _ ⟨y,h,_⟩=>by rw[h];rfl),?_⟩⟩
  intros
  refine Ztf λys=>?_
  rintro aR ⟨y,hv,hQ⟩ b4 fy
  obtain rfl:ys=y.cs:=by simpa using hv
  have bJ:(L'.length+1)*112<=140737488355328:=by omega
  refine ZcY Ac.len Ac.one fy y (hE.row.mono aR) 112 bJ (by omega) (.inl rfl) λa5 c5 m5 cP cw aS=>?_
  have cB:=hE.step Ac.len (by omega) hx aR hQ fy cP cw aS
  exact⟨L.length - (k+1),by omega,k+1,a5,c5,L'++[y],_,by omega,rfl,by rw[hw,zA1];rfl,by rw[zA1];rfl,cB⟩
 ·have cY:k=L.length:=by have:=of_decide_eq_false bO;omega
  rw[cY,List.take_length]at hE
  exact⟨m2,hE.le,Mem.le_refl _,_,_,L',μ,rfl,hE⟩
theorem Zv3(cb:Nat)(Q:Ru->Ru->Mem->Prop)(L:List Ru)(a:Option Addr)(d:Nat)(m:Mem)(aC:rowRd m a (L.map Ru.cs).flatten)(hl:L.length<=few)(gx:∀x∈L,∀m2,m.le m2->CX Tryz.prog cb #[.agg x.cs.toArray] m2 [] (λv m3 _=>∃y:Ru,v=.agg y.cs.toArray/\Q x y (nw m2 m3))):
  CX Tryz.prog 57 #[.slice a L.length d,.func (.func cb) #[] #[]] m [] (ZqU Ru.cs Q m L):=by
 have hl:L.length<=100000:=hl
 apply ZbZ (p1fi:=[]) (p1ca:=[])
 refine⟨λxs css tvs m' q=>∃(k:Nat)(a':Option Addr)(c':Nat)(L':List Ru)(μ:Nat->Mem),k<=L.length/\q=L.length - k/\xs=[.slice a' L'.length c',.int .i64 k]/\tvs=[.slice a' L'.length c']/\Each Ru.cs Q m m' (L.take k) a' c' L' μ,⟨_,0,none,0,[],_,by omega,rfl,rfl,rfl,Each.nil m⟩,?_⟩
 rintro a1 n1 c1 z a2 n2 c2 m2 q _ ⟨k,a',c',L',μ,hk,hq,cC,cQ,hE⟩
 simp only[List.cons.injEq,Value.slice.injEq,Value.int.injEq,true_and,and_true]at cC cQ
 obtain⟨⟨rfl,rfl,rfl⟩,rfl⟩:=cC
 obtain⟨rfl,rfl,rfl⟩:=cQ
 have iN:L'.length=k:=by rw[hE.len,List.length_take];omega
 refine Zab (λaB=>?_) (λbO=>?_)
 ·have aJ:k < L.length:=by have:=zA6 aB;omega
  obtain⟨x,hx⟩:=Zao aJ
  obtain⟨b,o,ha,cz⟩:=Zaj Ru.len aC hx (by omega)
  have hw:IntKind.i64.wrap ((k:Int)+1)=((k+1:Nat):Int):=by rw[Zal (by omega) (by omega)];rfl
  refine⟨b,o,ha,⟨by omega,by omega⟩,_,_,_,_,_,_,_,_,_,_,_,_,_,_,_,_,cz.mono hE.le,λb3=>Zaa rfl ⟨_,trivial,gx x (zA2 hx) m2 hE.le,(λv _ _ ⟨y,h,_⟩=>by rw[h];rfl),?_⟩⟩
  intros
  refine Ztf λys=>?_
  rintro aR ⟨y,hv,hQ⟩ b4 fy
  obtain rfl:ys=y.cs:=by simpa using hv
  have bJ:(L'.length+1)*168<=140737488355328:=by omega
  refine ZcY Ru.len Ru.one fy y (hE.row.mono aR) 168 bJ (by omega) (.inl rfl) λa5 c5 m5 cP cw aS=>?_
  have cB:=hE.step Ru.len (by omega) hx aR hQ fy cP cw aS
  exact⟨L.length - (k+1),by omega,k+1,a5,c5,L'++[y],_,by omega,rfl,by rw[hw,zA1];rfl,by rw[zA1];rfl,cB⟩
 ·have cY:k=L.length:=by have:=of_decide_eq_false bO;omega
  rw[cY,List.take_length]at hE
  exact⟨m2,hE.le,Mem.le_refl _,_,_,L',μ,rfl,hE⟩
theorem Zv4(cb:Nat)(Q:Sta->Sta->Mem->Prop)(L:List Sta)(a:Option Addr)(d:Nat)(m:Mem)(aC:rowRd m a (L.map Sta.cs).flatten)(hl:L.length<=few)(gx:∀x∈L,∀m2,m.le m2->CX Tryz.prog cb #[.agg x.cs.toArray] m2 [] (λv m3 _=>∃y:Sta,v=.agg y.cs.toArray/\Q x y (nw m2 m3))):
  CX Tryz.prog 55 #[.slice a L.length d,.func (.func cb) #[] #[]] m [] (ZqU Sta.cs Q m L):=by
 have hl:L.length<=100000:=hl
 apply ZbF (p1fi:=[]) (p1ca:=[])
 refine⟨λxs css tvs m' q=>∃(k:Nat)(a':Option Addr)(c':Nat)(L':List Sta)(μ:Nat->Mem),k<=L.length/\q=L.length - k/\xs=[.slice a' L'.length c',.int .i64 k]/\tvs=[.slice a' L'.length c']/\Each Sta.cs Q m m' (L.take k) a' c' L' μ,⟨_,0,none,0,[],_,by omega,rfl,rfl,rfl,Each.nil m⟩,?_⟩
 rintro a1 n1 c1 z a2 n2 c2 m2 q _ ⟨k,a',c',L',μ,hk,hq,cC,cQ,hE⟩
 simp only[List.cons.injEq,Value.slice.injEq,Value.int.injEq,true_and,and_true]at cC cQ
 obtain⟨⟨rfl,rfl,rfl⟩,rfl⟩:=cC
 obtain⟨rfl,rfl,rfl⟩:=cQ
 have iN:L'.length=k:=by rw[hE.len,List.length_take];omega
 refine Zab (λaB=>?_) (λbO=>?_)
 ·have aJ:k < L.length:=by have:=zA6 aB;omega
  obtain⟨x,hx⟩:=Zao aJ
  obtain⟨b,o,ha,cz⟩:=Zaj Sta.len aC hx (by omega)
  have hw:IntKind.i64.wrap ((k:Int)+1)=((k+1:Nat):Int):=by rw[Zal (by omega) (by omega)];rfl
  refine⟨b,o,ha,⟨by omega,by omega⟩,_,_,cz.mono hE.le,λb3=>Zaa rfl ⟨_,trivial,gx x (zA2 hx) m2 hE.le,(λv _ _ ⟨y,h,_⟩=>by rw[h];rfl),?_⟩⟩
  intros
  refine Ztf λys=>?_
  rintro aR ⟨y,hv,hQ⟩ b4 fy
  obtain rfl:ys=y.cs:=by simpa using hv
  have bJ:(L'.length+1)*40<=140737488355328:=by omega
  refine ZcY Sta.len Sta.one fy y (hE.row.mono aR) 40 bJ (by omega) (.inl rfl) λa5 c5 m5 cP cw aS=>?_
  have cB:=hE.step Sta.len (by omega) hx aR hQ fy cP cw aS
  exact⟨L.length - (k+1),by omega,k+1,a5,c5,L'++[y],_,by omega,rfl,by rw[hw,zA1];rfl,by rw[zA1];rfl,cB⟩
 ·have cY:k=L.length:=by have:=of_decide_eq_false bO;omega
  rw[cY,List.take_length]at hE
  exact⟨m2,hE.le,Mem.le_refl _,_,_,L',μ,rfl,hE⟩
def CpE(m:Mem)(t:E):Value->Mem->List (List Value)->Prop:=λv m' _=>∃t':E,v=t'.v/\t'.er=t.er/\RepE (nw m m') t'
theorem ZrB{m:Mem}{t:E}:∀(v:Value)(m':Mem) (css:List (List Value)),CpE m t v m' css->Shape.fits (.agg [.int .u8,.any,.str,.int .i64,.slice]) v=true:=λv _ _ ⟨t,e,_⟩=>by rw[e];rfl
theorem ZrC(t:E)(m:Mem)(hr:RepE m t)(hl:t.light=true):CX Tryz.prog 90 #[t.v] m [] (CpE m t):=by
 apply ZlQ
 intro b m1 aG _ b1
 have h:=ZcW t m1 (hr.mono' aG)
 rw[hl]at h
 refine Zah h λm2 aK=>Zor rfl (Zan (ZkY t m2 (hr.mono' (mLt aG aK)) (zA6 hl)) ZfR ?_)
 rintro n v s n1 a n2 c m3 aR ⟨t',hv,hr',he,hn⟩
 obtain⟨rfl,rfl,rfl,rfl,rfl,rfl,rfl⟩:=ZpX hv
 exact Zaa rfl ⟨m3,mLt aG (mLt aK aR),Mem.le_refl _,t',rfl,he,Zuu t' hr' (hn.less (mLt aG aK))⟩
theorem Zz8(p:Pt)(m:Mem)(hr:RepP m p)(hl:p.e.light=true):CX Tryz.prog 92 #[.agg p.cs.toArray] m [] (λv m' _=>∃q:Pt,v=.agg q.cs.toArray/\QP p q (nw m m')):=by
 apply Zef
 intro b b1
 refine Zan (ZrC p.e m hr.e hl) ZrB ?_
 rintro n v s n1 a n2 c m3 aR ⟨t',hv,he,dp⟩
 obtain⟨rfl,rfl,rfl,rfl,rfl,rfl,rfl⟩:=ZpX hv
 refine Zaa rfl (Zaa rfl ⟨m3,aR,Mem.le_refl _,⟨p.k,p.s,p.g,t'⟩,rfl,?_,hr.k,hr.s,hr.g,dp⟩)
 simp only[Pt.er,he]
theorem Zz9(x:Ac)(m:Mem)(hr:RepA m x)(hl:LtA x):CX Tryz.prog 89 #[.agg x.cs.toArray] m [] (λv m' _=>∃q:Ac,v=.agg q.cs.toArray/\QA x q (nw m m')):=by
 apply Zfg
 intro b b1
 refine Zan (ZrC x.e m hr.e hl.1) ZrB ?_
 rintro n v s n1 a n2 c m1 aG ⟨t',hv,he,dp⟩
 obtain⟨rfl,rfl,rfl,rfl,rfl,rfl,rfl⟩:=ZpX hv
 refine Zaa rfl ⟨_,trivial,Zv1 92 QP x.parts x.pa x.pc m1 (hr.row.mono aG) hr.n (λp hp m2 aK=>Zz8 p m2 ((hr.all p hp).mono (mLt aG aK)) (hl.2 p hp)),Zfb,?_⟩
 rintro a' n' c' m2 aK ⟨a5,c5,L',μ,hv',hE⟩
 simp only[Value.slice.injEq]at hv'
 obtain⟨rfl,rfl,rfl⟩:=hv'
 refine Zaa rfl ⟨m2,mLt aG aK,Mem.le_refl _,⟨x.k,x.s,a',c',L',t'⟩,rfl,?_,ZsG hr hE (Zec aG (Mem.le_refl _)) (dp.mono' (Zec (Mem.le_refl _) aK))⟩
 simp only[Ac.er,he,hE.same λ_ _ _ h=>h.1]
theorem ZAa(x:Ru)(m:Mem)(hr:RepR m x)(hl:LtR x):CX Tryz.prog 49 #[.agg x.cs.toArray] m [] (λv m' _=>∃q:Ru,v=.agg q.cs.toArray/\QR x q (nw m m')):=by
 apply Zg2
 intro b b1
 refine Zan (ZvR x.t m hr.t (zA6 hl.1)) ZvQ ?_
 rintro n0 n1 n2 n3 n4 n5 n6 a n c m1 aG ⟨t',hv,he,dp⟩
 simp only[T.v,Value.agg.injEq,Array.mk.injEq,List.cons.injEq,Value.int.injEq,Value.slice.injEq,true_and,and_true]at hv
 obtain⟨rfl,rfl,rfl,rfl,rfl,rfl,rfl,rfl,rfl,rfl⟩:=hv
 refine⟨_,trivial,Zv2 89 QA x.acts x.aa x.ac m1 (hr.row.mono aG) hr.len (λp hp m2 aK=>Zz9 p m2 ((hr.all p hp).mono (mLt aG aK)) (hl.2 p hp)),Zfb,?_⟩
 rintro a' n' c' m2 aK ⟨a5,c5,L',μ,hv',hE⟩
 simp only[Value.slice.injEq]at hv'
 obtain⟨rfl,rfl,rfl⟩:=hv'
 refine⟨m2,mLt aG aK,Mem.le_refl _,⟨x.k,x.bg,x.en,t',x.s,x.n,a',c',L',x.go,x.code⟩,rfl,?_,ZsH hr hE (Zec aG (Mem.le_refl _)) (dp.mono (Zec (Mem.le_refl _) aK))⟩
 simp only[Ru.er,he,hE.same λ_ _ _ h=>h.1]
theorem ZAb(x:Sta)(m0 m:Mem)(h0:m0.le m)(hr:RepS m x)(hl:∀r∈x.rules,LtR r):CX Tryz.prog 56 #[.agg x.cs.toArray] m [] (λv m' _=>∃q:Sta,v=.agg q.cs.toArray/\QS m0 x q (nw m m')):=by
 apply ZjK
 intro b m1 aG _ b1
 refine⟨λ_ _ μ=>ZqU Ru.cs QR μ x.rules,_,rfl,Zv3 49 QR x.rules x.ra x.rc m1 (hr.row.mono aG) hr.len (λp hp m2 aK=>ZAa p m2 ((hr.all p hp).mono (mLt aG aK)) (hl p hp)),Zfb,?_⟩
 rintro a' n' c' m2 aK ⟨a5,c5,L',μ,hv',hE⟩ M _ hM
 simp only[Value.slice.injEq]at hv'
 obtain⟨rfl,rfl,rfl⟩:=hv'
 exact⟨m2,mLt aG aK,hM,⟨x.s,a',c',L'⟩,rfl,(Zxq (mLt h0 aG) (hr.mono aG) hE).mono (Zec aG (Mem.le_refl _))⟩
def Zzl(m:Mem)(l:List Va):Value->Mem->List (List Value)->Prop:=λv m' _=>∃a' c',v=.slice a' l.length c'/\rowRd (nw m m') a' (l.map Va.cs).flatten/\l.length<=c'/\∀b o,a'=some ⟨b,o,none⟩->o=0/\m.k b=none
theorem ZoI(a:Option Addr)(c:Nat)(l:List Va)(m:Mem)(h:rowRd m a (l.map Va.cs).flatten)(hl:l.length<=few):CXT Tryz.prog 54 #[.slice a l.length c] m 4 (Zzl m l):=by
 have hl:l.length<=100000:=hl
 apply Zby
 have aH:(l.map Va.cs).flatten.length=l.length*4:=Za3 Va.len l
 refine Zab (λha=>?_) (λha=>⟨⟨rfl,Int.le_refl _,by decide,by decide⟩,λb hf xg=>⟨.inl rfl,[],(l.map Va.cs).flatten,rfl,aH,.inl rfl,h,?_,by omega,by omega,λa' c' m' hm aC iM=>⟨rfl,?_⟩⟩⟩)
 ·obtain rfl:a=none:=by simpa using ha
  have h0:l=[]:=by
   rcases h with h|⟨_,_,h,_⟩
   ·rw[h]at aH;exact List.eq_nil_of_length_eq_zero (by simp at aH;omega)
   ·cases h
  subst h0
  exact⟨rfl,none,0,rfl,.inl rfl,Nat.le_refl _,λ_ _ e=>by cases e⟩
 ·intro u hu
  simp only[List.mem_flatten,List.mem_map]at hu
  obtain⟨_,⟨e,_,rfl⟩,hu⟩:=hu
  exact Va.one e u hu
 ·simp only[Nat.zero_add]at iM ⊢
  have ho:∀b o,a'=some ⟨b,o,none⟩->o=0/\m.k b=none:=λb' o e=>by
   rcases iM.2 with h1|⟨b2,o2,h1,h2|⟨rfl,_,h3⟩⟩
   ·rw[h1]at e;cases e
   ·rw[<-h2]at e;cases e;exact⟨rfl,xg⟩
   ·rw[h1]at e;cases e;exact⟨rfl,h3⟩
  refine⟨a',c',rfl,Zmu aC ?_,iM.1,ho⟩
  rcases(iM.old (λ_ _ e=>by cases e;rfl)).2 with h1|⟨b',h1,h2|h2⟩
  ·exact .inr λb o e=>by rw[h1]at e;cases e
  ·exact .inr λb' o e=>by rw[<-h2]at e;cases e;exact hf
  ·exact .inr λb o e=>by rw[h1]at e;cases e;exact h2
def CpC(m:Mem)(s:Sc):Value->Mem->List (List Value)->Prop:=λv m' _=>∃s':Sc,v=s'.v/\s'.er=s.er/\RepC (nw m m') s'/\(s'.states=[]\/∃b μ,SepC m m' s' b μ)
theorem ZjV{m:Mem}{s:Sc}:∀(v:Value)(m':Mem) (css:List (List Value)),CpC m s v m' css->Shape.fits (.agg [.int .i64,.slice,.slice]) v=true:=λv _ _ ⟨t,e,_⟩=>by rw[e];rfl
theorem Ztg{m:Mem}{l:List Va}:∀(v:Value)(m':Mem) (css:List (List Value)),Zzl m l v m' css->Shape.fits .slice v=true:=λv _ _ ⟨_,_,h,_⟩=>by rw[h];rfl
theorem ZoJ(s:Sc)(m:Mem)(hr:RepC m s)(hl:s.light=true):CX Tryz.prog 18 #[s.v] m [] (CpC m s):=by
 apply Zou
 intro b m1 aG _ b1
 have h:=Zcc s m1 (hr.mono aG)
 rw[hl]at h
 refine Zah h λm2 aK=>Zor rfl ?_
 have dY:=hr.mono (mLt aG aK)
 have cV:=mLt aG aK
 refine⟨λi _ μ=>if i=4 then Zzl μ s.vars else ZqU Sta.cs (QS m) μ s.states,_,rfl,(ZoI s.va s.vc s.vars m2 dY.vrow dY.vlen).toCX,Ztg,?_⟩
 rintro a n c m3 aR ⟨a',c',hv,aC,cS,fc⟩
 simp only[Value.slice.injEq]at hv
 obtain⟨rfl,rfl,rfl⟩:=hv
 refine⟨_,rfl,Zv4 56 (QS m) s.states s.sa s.sc m3 (dY.row.mono aR) dY.len (λx hx m4 cE=>ZAb x m m4 (mLt cV (mLt aR cE)) ((dY.all x hx).mono (mLt aR cE)) (Zu8 hl x hx)),Zfb,?_⟩
 rintro a4 n4 c4 m4 cE ⟨a5,c5,L',μ,hv',hE⟩ M _ fA gt
 simp only[Value.slice.injEq]at hv'
 obtain⟨rfl,rfl,rfl⟩:=hv'
 have dA:=mLt cV aR
 have lx:(nw m3 m4).le (nw m M):=Zec dA gt
 refine⟨M,mLt cV (mLt aR fA),Mem.le_refl _,⟨s.n,a,c,s.vars,a4,c4,L'⟩,rfl,?_,⟨hr.n,hr.vlen,aC.mono (Zec cV fA),hr.vall,by rw[hE.len];exact hr.len,hE.rows.mono lx,λy hy=>?_,cS,hE.cap⟩,?_⟩
 ·simp only[Sc.er,hE.same (f:=Sta.er) (g:=Sta.er) λ_ _ _ h=>h.1]
 ·obtain⟨i,x,_,_,hq,hs⟩:=hE.at hy
  exact hq.2.1.mono (mLt hs lx)
 ·rcases hE.blk with⟨h1,_⟩|⟨_,b,hb,hf,hk,hμ⟩
  ·exact .inl (List.eq_nil_of_length_eq_zero (by rw[hE.len,h1];rfl))
  ·refine .inr ⟨b,μ,hb,⟨Zbo dA hf,Zfa dA hk⟩,λi y hy=>?_,λi j qt hj b'=>hE.ap i j qt (by rw[<-hE.len];exact hj) b',(λb' o e=>⟨(fc b' o e).1,Zfa cV (fc b' o e).2⟩),nw m2 m3,aC,Zec cV fA,Zbo (ZgM _ _) hf,λi hi b'=>?_⟩
   ·have aB:i < s.states.length:=by rw[<-hE.len];exact(zA0 hy).1
    have hq:=hE.q i _ _ (zA3 aB) hy
    exact⟨hq.2.1,hq.2.2,mLt (hE.sub i aB) lx,(hμ i aB).1⟩
   ·by_cases fO:(nw m2 m3).free b'
    ·exact .inl fO
    ·exact .inr (Zbo (hE.sub i (by rw[<-hE.len];exact hi)) (ZpG λh=>fO (Zbo (ZgM _ _) h)))
def OvR(m0:Mem):RTY:=λv m' _ _=>v=.tuple #[]/\Ov m0 m'
theorem ZfS{m0:Mem}:∀(v:Value)(m':Mem) (css:List (List Value)) (tvs:List Value),OvR m0 v m' css tvs->Shape.fits (.tup []) v=true:=λv _ _ _ h=>by rw[h.1];rfl
theorem ZhD{m:Mem}{b o j:Nat}{cs:List Value}{v:Value}(h:m.reads b o cs)(hj:cs[j]?=some v):∃vs:List Value,vs.length=1/\m.reads b (o+j) vs:=⟨[v],rfl,λi u hu=>by
 cases i with
 | zero=>cases hu;exact h j v hj
 | succ i=>cases hu⟩
theorem ZAN{m0 m mm:Mem}{Y:Nat->Prop}{b:Nat}(hY:∀x,Old m0 x->Y x)(ho:Ov m0 m)(hO:Ov m0 mm)(hf:m.free b):∀b2,Old m0 b2->(∃t:Tok,t∈([]:List Tok)/\t.blk=some b2)\/(((m.off Y).free b2/\(m.off Y).k b2=none)/\((∃o v,mm b2 o=some v)\/∃e,mm.k b2=some e)/\b≠b2/\True):=
 λb2 eY=>.inr ⟨⟨Mem.off_free (hY b2 eY),Mem.off_kn (hY b2 eY)⟩,.inl (hO.known eY),ho.ne eY hf,trivial⟩
theorem Zth{a:Option Addr}{n c:Nat}{a':Option Addr}{n' c' i:Nat}(h:SlO a n c a' n' c')(hi:i < n'):a'=a/\n'=n/\c'=c:=h.resolve_right λh=>by omega
theorem ZlY(m0:Mem)(N:Nat):∀(t:T),SizeOf.sizeOf t < N->Rep m0 t->∀(p0 p1 p2 p3 p4 p5 p6:Int)(a:Option Addr)(n c:Nat)(m:Mem),SlO t.a t.subs.length t.c a n c->Ov m0 m->CXY Tryz.prog 106 #[.agg #[.int .u8 p0,.int .u64 p1,.int .u64 p2,.int .u64 p3,.int .u64 p4,.int .i64 p5,.int .i64 p6,.slice a n c]] m (Old m0) [] [] (OvR m0):=by
 induction N with
 | zero=>intro t h;omega
 | succ N ih=>
  intro t hN hr p0 p1 p2 p3 p4 p5 p6 a n c m hs ho
  have hl:=(Ziu hr).1
  have hn:n<=1000000000000000:=by rcases hs with⟨_,h,_⟩|⟨_,h,_⟩ <;> omega
  apply Zdz
  intro b m1 aG _ hf px
  refine⟨λxs _ _ mm q=>∃i:Nat,i<=n/\xs=[.int .i64 i]/\Ov m0 mm/\q=n - i,⟨_,0,by omega,rfl,ho.mono aG,rfl⟩,?_⟩
  rintro ni mm q _ ⟨i,hi,cC,hO,rfl⟩
  obtain rfl:ni=i:=by simpa using cC
  have hw:IntKind.i64.wrap ((i:Int)+1)=((i+1:Nat):Int):=by rw[Zal (by omega) (by omega)];rfl
  refine ZaB (λaB=>?_) (λbO=>⟨rfl,hO⟩)
  have aB:(i:Int) < (n:Nat):=aB
  obtain⟨rfl,rfl,rfl⟩:=Zth hs (show i < n by omega)
  obtain⟨x,hx⟩:=Zao (show i < t.subs.length by omega)
  obtain⟨b1,o1,ha,dU⟩:=(Ziu hr).2.resolve_left (λe=>by rw[e]at hx;simp at hx)
  obtain⟨cz,eM⟩:=dU.get hx
  obtain⟨cs',fI,nf⟩:=hO.reads cz
  obtain⟨q0,q1,q2,q3,q4,q5,q6,a',n',c',rfl,hs'⟩:=ZB8 nf
  have dt:Old m0 b1:=Zlu (cz 0 _ rfl)
  have bJ:SizeOf.sizeOf x < N:=by
   have h1:=List.sizeOf_lt_of_mem (zA2 hx)
   have h2:SizeOf.sizeOf t.subs < SizeOf.sizeOf t:=by cases t;simp only[T.subs,T.node.sizeOf_spec];omega
   omega
  refine⟨b1,o1,ha,⟨by omega,aB⟩,_,_,_,_,_,_,_,_,fI,Old m0,OvR m0,ih x bJ eM q0 q1 q2 q3 q4 q5 q6 a' n' c' mm hs' hO,(λt h=>by cases h),ZAN (λ_ h=>h) ho hO hf,ZfS,?_⟩
  rintro m2 aK _ ⟨_,jh⟩
  obtain⟨cs2,fe,ng⟩:=jh.reads cz
  obtain⟨_,_,_,_,_,_,_,_,_,_,rfl,_⟩:=ZB8 ng
  refine⟨b1,o1,ha,⟨by omega,aB⟩,ZhD fe (j:=0) rfl,Mem.off_free dt,rfl,ho.ne dt hf,rfl,_,by omega,i+1,by omega,by rw[hw],jh.upd1 (cz 0 _ rfl) (Ov1.int _ _),rfl⟩
theorem Zha(m0:Mem)(N:Nat):∀(t:E),SizeOf.sizeOf t < N->RepE m0 t->∀(p0:Int)(p1:Value)(p2:ByteArray)(p3:Int)(a:Option Addr)(n c:Nat)(m:Mem),SlO t.a t.subs.length t.c a n c->Ov m0 m->CXY Tryz.prog 107 #[.agg #[.int .u8 p0,p1,.string p2,.int .i64 p3,.slice a n c]] m (Old m0) [] [] (OvR m0):=by
 induction N with
 | zero=>intro t h;omega
 | succ N ih=>
  intro t hN hr p0 p1 p2 p3 a n c m hs ho
  have hl:=(Zdg hr).1
  have hn:n<=1000000000000000:=by rcases hs with⟨_,h,_⟩|⟨_,h,_⟩ <;> omega
  apply ZdA
  intro b m1 aG _ hf px
  refine⟨λxs _ _ mm q=>∃i:Nat,i<=n/\xs=[.int .i64 i]/\Ov m0 mm/\q=n - i,⟨_,0,by omega,rfl,ho.mono aG,rfl⟩,?_⟩
  rintro ni mm q _ ⟨i,hi,cC,hO,rfl⟩
  obtain rfl:ni=i:=by simpa using cC
  have hw:IntKind.i64.wrap ((i:Int)+1)=((i+1:Nat):Int):=by rw[Zal (by omega) (by omega)];rfl
  refine ZaB (λaB=>?_) (λbO=>⟨rfl,hO⟩)
  have aB:(i:Int) < (n:Nat):=aB
  obtain⟨rfl,rfl,rfl⟩:=Zth hs (show i < n by omega)
  obtain⟨x,hx⟩:=Zao (show i < t.subs.length by omega)
  obtain⟨b1,o1,ha,dU⟩:=(Zdg hr).2.resolve_left (λe=>by rw[e]at hx;simp at hx)
  obtain⟨cz,eM⟩:=dU.get hx
  obtain⟨cs',fI,nf⟩:=hO.reads cz
  obtain⟨q0,q2,q3,a',n',c',rfl,hs'⟩:=ZBi nf
  have dt:Old m0 b1:=Zlu (cz 0 _ rfl)
  have bJ:SizeOf.sizeOf x < N:=by
   have h1:=List.sizeOf_lt_of_mem (zA2 hx)
   have h2:SizeOf.sizeOf t.subs < SizeOf.sizeOf t:=by cases t;simp only[E.subs,E.node.sizeOf_spec];omega
   omega
  refine⟨b1,o1,ha,⟨by omega,aB⟩,_,_,_,_,_,fI,Old m0,OvR m0,ih x bJ eM q0 _ q2 q3 a' n' c' mm hs' hO,(λt h=>by cases h),ZAN (λ_ h=>h) ho hO hf,ZfS,?_⟩
  rintro m2 aK _ ⟨_,jh⟩
  obtain⟨cs2,fe,ng⟩:=jh.reads cz
  obtain⟨_,_,_,_,_,_,rfl,_⟩:=ZBi ng
  refine⟨b1,o1,ha,⟨by omega,aB⟩,ZhD fe (j:=0) rfl,Mem.off_free dt,rfl,ho.ne dt hf,rfl,_,by omega,i+1,by omega,by rw[hw],jh.upd1 (cz 0 _ rfl) (Ov1.int _ _),rfl⟩
theorem ZlZ(m0:Mem)(r:Ru)(hr:RepR m0 r)(k:Int)(bg en:Bool)(q0 q1 q2 q3 q4 q5 q6:Int)(a:Option Addr)(n c:Nat)(s:ByteArray)(z:Int)(a1:Option Addr)(n1 c1:Nat)(go:ByteArray)(co:Int)(m:Mem)(cB:SlO r.t.a r.t.subs.length r.t.c a n c)(iH:SlO r.aa r.acts.length r.ac a1 n1 c1)(ho:Ov m0 m):
  CXY Tryz.prog 72 #[.agg #[.int .u8 k,.bool bg,.bool en,.int .u8 q0,.int .u64 q1,.int .u64 q2,.int .u64 q3,.int .u64 q4,.int .i64 q5,.int .i64 q6,.slice a n c,.string s,.int .i64 z,.slice a1 n1 c1,.string go,.int .i64 co]] m (Old m0) [] [] (OvR m0):=by
 have hl:r.acts.length<=100000:=hr.len
 have hn:n1<=100000:=by rcases iH with⟨_,h,_⟩|⟨_,h,_⟩ <;> omega
 apply ZdB
 intro b m1 aG _ hf px
 refine⟨Old m0,OvR m0,ZlY m0 _ r.t (Nat.lt_succ_self _) hr.t q0 q1 q2 q3 q4 q5 q6 a n c m1 cB (ho.mono aG),(λt h=>by cases h),ZAN (λ_ h=>h) ho (ho.mono aG) hf,ZfS,?_⟩
 rintro m2 aK _ ⟨_,jh⟩
 refine⟨λxs _ _ mm q=>∃i:Nat,i<=n1/\xs=[.int .i64 i]/\Ov m0 mm/\q=n1 - i,⟨_,0,by omega,rfl,jh,rfl⟩,?_⟩
 rintro ni mm q _ ⟨i,hi,cC,hO,rfl⟩
 obtain rfl:ni=i:=by simpa using cC
 have hw:IntKind.i64.wrap ((i:Int)+1)=((i+1:Nat):Int):=by rw[Zal (by omega) (by omega)];rfl
 refine ZaB (λaB=>?_) (λbO=>⟨rfl,hO⟩)
 have aB:(i:Int) < (n1:Nat):=aB
 obtain⟨rfl,rfl,rfl⟩:=Zth iH (show i < n1 by omega)
 obtain⟨x,hx⟩:=Zao (show i < r.acts.length by omega)
 have eM:=hr.all x (zA2 hx)
 obtain⟨b1,o1,ha,cz⟩:=Zaj Ac.len hr.row hx (by omega)
 have dt:Old m0 b1:=Zlu (cz 0 _ rfl)
 obtain⟨cs',fI,nf⟩:=hO.reads cz
 obtain⟨xk,xs,a2,n2,c2,e0,e2,e3,a3,n3,c3,rfl,gR,j7⟩:=ZCa nf
 have ia:x.parts.length<=100000:=eM.n
 have lg:n2<=100000:=by rcases gR with⟨_,h,_⟩|⟨_,h,_⟩ <;> omega
 refine⟨b1,o1,ha,⟨by omega,aB⟩,_,_,_,_,_,_,_,_,fI,λb2=>Zaa rfl ⟨Old m0,OvR m0,Zha m0 _ x.e (Nat.lt_succ_self _) eM.e e0 _ e2 e3 a3 n3 c3 mm j7 hO,(λt h=>by cases h),ZAN (λ_ h=>h) ho hO hf,ZfS,?_⟩⟩
 rintro m3 aR _ ⟨_,qE⟩
 refine Zaa rfl ⟨λxs _ _ mm q=>∃i:Nat,i<=n2/\xs=[.int .i64 i]/\Ov m0 mm/\q=n2 - i,⟨_,0,by omega,rfl,qE,rfl⟩,?_⟩
 rintro nj m4 q _ ⟨j,hj,cC,py,rfl⟩
 obtain rfl:nj=j:=by simpa using cC
 have i6:IntKind.i64.wrap ((j:Int)+1)=((j+1:Nat):Int):=by rw[Zal (by omega) (by omega)];rfl
 refine ZaB (λdh=>Zaa rfl ?_) (λdP=>?_)
 ·have dh:(j:Int) < (n2:Nat):=dh
  obtain⟨rfl,rfl,rfl⟩:=Zth gR (show j < n2 by omega)
  obtain⟨y,hy⟩:=Zao (show j < x.parts.length by omega)
  have mT:=eM.all y (zA2 hy)
  obtain⟨b3,o3,ew,eL⟩:=Zaj Pt.len eM.row hy (by omega)
  have eZ:Old m0 b3:=Zlu (eL 0 _ rfl)
  obtain⟨cs3,nh,s8⟩:=py.reads eL
  obtain⟨yk,ys,yg,f0,f2,f3,a4,n4,c4,rfl,xh⟩:=ZB9 s8
  refine⟨b3,o3,ew,⟨by omega,dh⟩,_,_,_,_,_,_,_,_,nh,λb4=>Zaa rfl ⟨Old m0,OvR m0,Zha m0 _ y.e (Nat.lt_succ_self _) mT.e f0 _ f2 f3 a4 n4 c4 m4 xh py,(λt h=>by cases h),ZAN (λ_ h=>h) ho py hf,ZfS,?_⟩⟩
  rintro m5 cP _ ⟨_,uS⟩
  obtain⟨cs5,jM,jN⟩:=uS.reads eL
  obtain⟨_,_,_,_,_,_,_,_,_,rfl,_⟩:=ZB9 jN
  refine Zaa rfl ⟨b3,o3,ew,⟨by omega,dh⟩,ZhD jM (j:=1) rfl,Mem.off_free eZ,rfl,ho.ne eZ hf,rfl,_,by omega,j+1,by omega,by rw[i6],uS.upd1 (eL 1 _ rfl) (Ov1.str _ _),rfl⟩
 ·obtain⟨cs5,jM,jN⟩:=py.reads cz
  obtain⟨_,_,_,_,_,_,_,_,_,_,_,rfl,_⟩:=ZCa jN
  refine⟨b1,o1,ha,⟨by omega,aB⟩,ZhD jM (j:=1) rfl,Mem.off_free dt,rfl,ho.ne dt hf,rfl,_,by omega,i+1,by omega,by rw[hw],py.upd1 (cz 1 _ rfl) (Ov1.str _ _),rfl⟩
theorem Zv5{m:Mem}{b o:Nat}{v:Value}(h:m b o=some v):∃vs:List Value,vs.length=1/\m.reads b o vs:=⟨[v],rfl,λi u hu=>by
 cases i with
 | zero=>cases hu;exact h
 | succ i=>cases hu⟩
def StOk(s:Sc)(bS:Nat)(mm:Mem):Prop:=∀(j:Nat)(x:Sta),s.states[j]?=some x->∃z:ByteArray,mm.reads bS (0+j*2) [.string z,.slice x.ra x.rules.length x.rc]
theorem StOk.other{s:Sc}{bS b o:Nat}{mm:Mem}{vs:List Value}(h:StOk s bS mm)(hb:b≠bS):StOk s bS (mm.upd b o vs):=λj x hx=>by
 obtain⟨z,hz⟩:=h j x hx
 exact⟨z,λq u hu=>by rw[Mem.upd_other mm (λe=>hb e.symm)];exact hz q u hu⟩
theorem StOk.le{s:Sc}{bS:Nat}{mm m' m1:Mem}(h:StOk s bS mm)(hf:m1.free bS)(hm:(mm.off (Old m1)).le m'):StOk s bS m':=λj x hx=>by
 obtain⟨z,hz⟩:=h j x hx
 exact⟨z,λq u hu=>hm _ _ _ (by rw[Mem.off_at (Y:=Old m1) (λh=>h hf)];exact hz q u hu)⟩
theorem StOk.name{s:Sc}{bS i:Nat}{mm:Mem}{y:ByteArray}(h:StOk s bS mm):StOk s bS (mm.upd bS (0+i*2+0) [.string y]):=λj x hx=>by
 obtain⟨z,hz⟩:=h j x hx
 have h0:=hz 0 _ rfl
 have h1:=hz 1 _ rfl
 refine⟨if j=i then y else z,λq u hu=>?_⟩
 rcases q with _|_|q
 ·cases hu
  simp only[Mem.upd]
  by_cases e:j=i
  ·subst e
   rw[if_pos ⟨trivial,by omega,by simp⟩,if_pos rfl];simp
  ·rw[if_neg (λhc=>by obtain⟨_,h2,h3⟩:=hc;simp only[List.length_cons,List.length_nil]at h3;omega),if_neg e];exact h0
 ·cases hu
  simp only[Mem.upd]
  rw[if_neg (λhc=>by obtain⟨_,h2,h3⟩:=hc;simp only[List.length_cons,List.length_nil]at h3;omega)];exact h1
 ·cases hu
theorem Zv6(m0:Mem)(s:Sc)(bS:Nat)(m:Mem)(hr:RepC m0 s)(iH:s.sa=some ⟨bS,0,none⟩)(cC:∀x∈s.states,RepS (m0.off λq=>q=bS) x)(uT:rowRd (m0.off λq=>q=bS) s.va (s.vars.map Va.cs).flatten)(hm:m0.le m):
  CXY Tryz.prog 23 #[s.v] m (Old m0) [] [] (λv _ _ _=>v=.tuple #[]):=by
 have gQ:s.vars.length<=100000:=hr.vlen
 have d5:s.states.length<=100000:=hr.len
 obtain⟨M,hM⟩:∃M,M=m0.off λq=>q=bS:=⟨_,rfl⟩
 have uU:M.le m0:=by rw[hM];exact Mem.off_le m0 _
 have s9:M.free bS:=by rw[hM];exact Mem.off_free (Y:=λq=>q=bS) rfl
 rw[<-hM]at cC uT
 have ql:=mLt uU hm
 have eR:∀x,Old M x->Old m0 x:=λx h hf=>h (Zbo uU hf)
 have pz:∀{b o:Nat} {v:Value},M b o=some v->b≠bS:=λh e=>by rw[e,s9]at h;cases h
 have gO:∀(j:Nat)(x:Sta),s.states[j]?=some x->m0.reads bS (0+j*2) x.cs:=λj x hx=>by
  obtain⟨b,o,ha,h⟩:=Zaj Sta.len hr.row hx (by omega)
  rw[iH]at ha;cases ha;exact h
 apply Zf1
 intro b m1 aG _ hf px
 have lL:=Ov.of_le hm
 have td:=Ov.of_le ql
 refine⟨λxs _ _ mm q=>∃i:Nat,i<=s.vars.length/\xs=[.int .i64 i]/\Ov M mm/\StOk s bS mm/\q=s.vars.length - i,⟨_,0,by omega,rfl,Ov.of_le (mLt ql aG),λj x hx=>⟨x.s,(gO j x hx).mono (mLt hm aG)⟩,rfl⟩,?_⟩
 rintro ni mm q _ ⟨i,hi,i7,hO,hS,rfl⟩
 obtain rfl:ni=i:=by simpa using i7
 have hw:IntKind.i64.wrap ((i:Int)+1)=((i+1:Nat):Int):=by rw[Zal (by omega) (by omega)];rfl
 refine ZaB (λaB=>?_) (λbO=>?_)
 ·have aB:(i:Int) < (s.vars.length:Nat):=aB
  obtain⟨x,hx⟩:=Zao (show i < s.vars.length by omega)
  obtain⟨b1,o1,ha,cz⟩:=Zaj Va.len uT hx (by omega)
  have h0:=cz 0 _ rfl
  have dt:=eR _ (Zlu h0)
  obtain⟨v',g1,_⟩:=hO _ _ _ h0
  exact⟨b1,o1,ha,⟨by omega,aB⟩,Zv5 g1,Mem.off_free dt,rfl,lL.ne dt hf,rfl,_,by omega,i+1,by omega,by rw[hw],hO.upd1 h0 (Ov1.str _ _),hS.other (pz h0),rfl⟩
 clear bO hi i7 hw
 refine⟨λxs _ _ mm q=>∃i:Nat,i<=s.states.length/\xs=[.int .i64 i]/\Ov M mm/\StOk s bS mm/\q=s.states.length - i,⟨_,0,by omega,rfl,hO,hS,rfl⟩,?_⟩
 clear hO hS
 rintro ni mm q _ ⟨i,hi,i7,hO,hS,rfl⟩
 obtain rfl:ni=i:=by simpa using i7
 have hw:IntKind.i64.wrap ((i:Int)+1)=((i+1:Nat):Int):=by rw[Zal (by omega) (by omega)];rfl
 refine ZaB (λaB=>?_) (λbO=>rfl)
 have aB:(i:Int) < (s.states.length:Nat):=aB
 obtain⟨x,hx⟩:=Zao (show i < s.states.length by omega)
 have eM:=cC x (zA2 hx)
 have iA:x.rules.length<=100000:=eM.len
 have qF:Old m0 bS:=Zlu (gO i x hx 0 _ rfl)
 obtain⟨z,hz⟩:=hS i x hx
 refine⟨bS,0,iH,⟨by omega,aB⟩,_,hz 1 _ rfl,Zaa rfl ⟨λxs _ _ mm q=>∃j:Nat,j<=x.rules.length/\xs=[.int .i64 j]/\Ov M mm/\StOk s bS mm/\q=x.rules.length - j,⟨_,0,by omega,rfl,hO,hS,rfl⟩,?_⟩⟩
 rintro nj m2 q _ ⟨j,hj,i7,jh,nW,rfl⟩
 obtain rfl:nj=j:=by simpa using i7
 have i6:IntKind.i64.wrap ((j:Int)+1)=((j+1:Nat):Int):=by rw[Zal (by omega) (by omega)];rfl
 obtain⟨z2,qG⟩:=nW i x hx
 refine ZaB (λdh=>?_) (λdP=>?_)
 ·have dh:(j:Int) < (x.rules.length:Nat):=dh
  obtain⟨r,dF⟩:=Zao (show j < x.rules.length by omega)
  have fM:=eM.all r (zA2 dF)
  obtain⟨b3,o3,ew,eL⟩:=Zaj Ru.len eM.row dF (by omega)
  have h0:=eL 0 _ rfl
  have eZ:=eR _ (Zlu h0)
  obtain⟨cs',nh,nf⟩:=jh.reads eL
  obtain⟨k,bg,en,q0,q1,q2,q3,q4,q5,q6,a,n,c,sx,zx,a1,n1,c1,go,co,rfl,cB,te⟩:=ZCp nf
  refine⟨bS,0,iH,⟨by omega,aB⟩,_,qG 1 _ rfl,Zaa rfl ⟨b3,o3,ew,⟨by omega,dh⟩,_,_,_,_,_,_,_,_,_,_,_,_,_,_,_,_,nh,Old M,OvR M,ZlZ M r fM k bg en q0 q1 q2 q3 q4 q5 q6 a n c sx zx a1 n1 c1 go co m2 cB te jh,(λt h=>by cases h),ZAN eR td jh hf,ZfS,?_⟩⟩
  rintro m3 aR _ ⟨_,qE⟩
  have pA:=nW.le s9 aR
  obtain⟨z3,ko⟩:=pA i x hx
  obtain⟨cs5,jM,jN⟩:=qE.reads eL
  exact⟨bS,0,iH,⟨by omega,aB⟩,_,ko 1 _ rfl,Zaa rfl ⟨b3,o3,ew,⟨by omega,dh⟩,⟨cs5,jN.len,jM⟩,Mem.off_free eZ,rfl,lL.ne eZ hf,rfl,_,by omega,j+1,by omega,by rw[i6],qE.upd eL (Nat.le_refl 16) (λq u v hu hv=>ZxA r hu hv),pA.other (pz h0),rfl⟩⟩
 ·exact⟨bS,0,iH,⟨by omega,aB⟩,ZhD qG (j:=0) rfl,Mem.off_free qF,rfl,lL.ne qF hf,rfl,_,by omega,i+1,by omega,by rw[hw],jh.upd_free s9 _ _,nW.name,rfl⟩
variable {m:Mem} {b:Nat}
def ZBs(l:List Pt)(i:Nat)(p:Pt):Bool:=!ZfZ p||(decide (i > 0)&&(p.k == 1&&(match l[i - 1]? with
 | some q=>q.k == 1
 | none=>false)))
def ZBt(s:Sc)(p:Pt):Bool:=(p.k == 2&&!(ZhJ s p.s).2)||(p.k == 4&&!ZdH s p.e)
def ZBu(r:Ru)(p:Pt):Bool:=(p.k == 3&&decide (p.g > Zcn r))||(p.k == 4&&decide (p.e.most > Zcn r))
theorem ZqS(s:Sc)(r:Ru)(l:List Pt)(i:Nat)(p:Pt):Zmg s r l i p=ZcE [(307,ZBs l i p),(308,ZBt s p),(309,ZBu r p)]:=rfl
def ZCu(s:Sc)(i n:Nat):List Value:=(List.range n).map λj=>.int .i64 (totals s i j)
def TotI(s:Sc)(i:Nat)(a:Option Addr)(vs:List Value)(m:Mem):Prop:=vs.length=i/\rowRd m a vs/\∀(k:Nat)(x:Sta),k < i->s.states[k]?=some x->∃ak ck,vs[k]?=some (.slice ak x.rules.length ck)/\rowRd m ak (ZCu s k x.rules.length)
theorem TotI.mono{s:Sc}{i:Nat}{a:Option Addr}{vs:List Value}{m m':Mem}(h:TotI s i a vs m)(hm:m.le m'):TotI s i a vs m':=⟨h.1,h.2.1.mono hm,λk x hk hx=>by
 obtain⟨ak,ck,h1,h2⟩:=h.2.2 k x hk hx
 exact⟨ak,ck,h1,h2.mono hm⟩⟩
theorem ZA1{m:Mem}{a:Option Addr}{vs:List Value}(h:rowRd m a vs){k:Nat}{v:Value}(hk:vs[k]?=some v):∃b o,a=some ⟨b,o,none⟩/\m.c b (o+k*1)=some v:=by
 rcases h with h|⟨b,o,ha,h⟩
 ·rw[h]at hk;simp at hk
 ·exact⟨b,o,ha,by rw[Nat.mul_one];exact h k v hk⟩
theorem Zp3(L:List Pl):(L.map Pl.cs).flatten.length=L.length*5:=by
 induction L with
 | nil=>rfl
 | cons x l ih=>rw[List.map_cons,List.flatten_cons,zA1,ih,List.length_cons,Nat.succ_mul];show 5+_=_;omega
def PI(L:List Pl)(v t:Value)(m:Mem):Prop:=∃a c a1 n1 c1,v=.slice a L.length c/\t=.slice a1 n1 c1/\((a1=a/\n1=L.length/\c1=c)\/c < L.length+1)/\rowRd m a (L.map Pl.cs).flatten
theorem PI.mono{L:List Pl}{v t:Value}{m m':Mem}(h:PI L v t m)(hm:m.le m'):PI L v t m':=by
 obtain⟨a,c,a1,n1,c1,h1,h2,h3,h4⟩:=h
 exact⟨a,c,a1,n1,c1,h1,h2,h3,h4.mono hm⟩
theorem PI.app{L:List Pl}{a a1:Option Addr}{n c n1 c1:Nat}{m:Mem}{b:Nat}{Q:Option Addr->Nat->Mem->Prop}(z:Pl)(h:PI L (.slice a n c) (.slice a1 n1 c1) m)(hb:L.length<=30000)(hf:m.free b)
  (k:∀(a':Option Addr)(c':Nat)(m':Mem),m.le m'->PI (L++[z]) (.slice a' (n+1) c') (.slice a' (n+1) c') m'->Q a' c' m'):
  (Tok.mk (.slice a1 n1 c1) 5=Tok.mk (.slice a n c) 5\/Value.slice a n c=.slice none 0 0\/c < n+1)/\∃xs ys:List Value,xs.length=n*5/\ys.length=1*5/\rowRd (m.add b z.cs) a xs/\rowRd (m.add b z.cs) (some ⟨b,0,none⟩) ys/\(∀u∈ys,u.oneCell'=true)/\
   (n+1)*40<=140737488355328/\n+1<=9223372036854775807/\∀(a':Option Addr)(c':Nat)(m':Mem),(m.add b z.cs).le m'->rowRd m' a' (List.append xs ys)->Q a' c' m':=by
 obtain⟨a0,c0,a10,n10,c10,h1,h2,h3,h4⟩:=h
 simp only[Value.slice.injEq]at h1 h2
 obtain⟨rfl,rfl,rfl⟩:=h1
 obtain⟨rfl,rfl,rfl⟩:=h2
 have cy:m.le (m.add b z.cs):=Mem.le_add hf _
 refine⟨?_,(L.map Pl.cs).flatten,z.cs,Zp3 L,rfl,h4.mono cy,.inr ⟨b,0,rfl,Zeh m b _⟩,?_,by omega,by omega,λa' c' m' hm' hr'=>k a' c' m' (mLt cy hm') ⟨a',c',a',L.length+1,c',?_,rfl,.inl ⟨rfl,?_,rfl⟩,?_⟩⟩
 ·rcases h3 with⟨e1,e2,e3⟩|h3
  ·rw[e1,e2,e3];exact .inl rfl
  ·exact .inr (.inr h3)
 ·intro u hu
  simp only[Pl.cs,List.mem_cons,List.not_mem_nil,or_false]at hu
  rcases hu with rfl|rfl|rfl|rfl|rfl <;> rfl
 ·rw[zA1];rfl
 ·rw[zA1];rfl
 ·rw[List.map_append,List.flatten_append]
  have:(List.map Pl.cs [z]).flatten=z.cs:=by simp
  rw[this];exact hr'
def ZoK(s:Sc):Value->Mem->List (List Value)->Prop:=λv m _=>∃a c,v=.slice a s.places.length c/\rowRd m a (s.places.map Pl.cs).flatten
theorem ZfT{s}:∀(v:Value)(m':Mem) (css:List (List Value)),ZoK s v m' css->Shape.fits .slice v=true:=λv _ _ ⟨_,_,e,_⟩=>by rw[e];rfl
set_option maxHeartbeats 4000000 in
theorem ZjW(s:Sc)(m:Mem)(hr:RepC m s):CX Tryz.prog 11 #[s.v] m [] (ZoK s):=by
 apply ZjT
 intro b m1 aG _
 have gQ:=hr.vlen
 have d5:=hr.len
 unfold few at gQ d5
 refine Zah (Zcc s m1 (hr.mono aG)) λm2 aK=>Zab (λhl=>?_) (λhl b2 nP=>?_)
 ·have hl:s.light=false:=by simpa using hl
  have he:s.places=[]:=by unfold Sc.places;rw[hl];rfl
  exact Zaf (mLt aG aK) ⟨none,0,by rw[he];rfl,by rw[he];exact .inl rfl⟩
 have hl:s.light=true:=by simpa using hl
 have jt:m2.le (m2.add b2 (Pl.cs top)):=Mem.le_add nP _
 have cV:=mLt aG (mLt aK jt)
 have ia:=ZkH s
 have qn:=Zjf hl
 rw[qn,List.length_cons,zA1,show(Zdk s.vars.length Vf).length=s.vars.length from ZfN _ _]at ia
 have hw:∀k:Nat,k<=100000->IntKind.i64.wrap ((k:Int)+1)=((k+1:Nat):Int):=λk hk=>by rw[Zal (by omega) (by omega)];rfl
 have start:PI [top] (.slice (some ⟨b2,0,none⟩) 1 1) (.slice none 0 0) (m2.add b2 (Pl.cs top)):=⟨_,1,_,_,_,rfl,rfl,.inr (by decide),.inr ⟨b2,0,rfl,by simpa using Zeh m2 b2 (Pl.cs top)⟩⟩
 refine⟨λxs _ tks m' q=>∃(i:Nat)(v t:Value),i<=s.vars.length/\xs=[v,.int .i64 i]/\tks=[t]/\PI (top::Zdk i Vf) v t m'/\q=s.vars.length - i,⟨s.vars.length,0,_,_,by omega,rfl,rfl,start,rfl⟩,?_⟩
 rintro a n c i' a1 n2 c1 m3 q aR ⟨i,v,t,hi,hx,ht,hP,rfl⟩
 simp only[List.cons.injEq,Value.int.injEq,and_true,true_and]at hx ht
 obtain⟨rfl,rfl⟩:=hx
 subst ht
 have dA:=mLt cV aR
 have uV:(Zdk i Vf).length=i:=ZfN _ _
 refine ZaB (λaB b3 fY=>?_) (λbO=>?_)
 ·have aB:(i:Int) < (s.vars.length:Int):=aB
  refine PI.app ⟨i,-1,-1,-1,-1⟩ hP (by rw[List.length_cons,uV];omega) fY λa' c' m' hm' hP'=>⟨rfl,s.vars.length - (i+1),by omega,i+1,_,_,by omega,by rw[hw i (by omega)],rfl,?_,rfl⟩
  rw[ZbW];exact hP'
 have bO:¬(i:Int) < (s.vars.length:Int):=bO
 obtain rfl:i=s.vars.length:=by omega
 generalize hB:top::Zdk s.vars.length Vf=B at hP
 have yu:B.length=s.vars.length+1:=by rw[<-hB,List.length_cons,uV]
 refine⟨λxs _ tks m' q=>∃(i:Nat)(v t:Value),i<=s.states.length/\xs=[v,.int .i64 i]/\tks=[t]/\PI (B++Zdk i (Ff s)) v t m'/\q=s.states.length - i,⟨s.states.length,0,_,_,by omega,rfl,rfl,by simpa[Zdk]using hP,rfl⟩,?_⟩
 rintro a n c i' a1 n2 c1 m4 q cE ⟨i,v,t,hi,hx,ht,hP,rfl⟩
 simp only[List.cons.injEq,Value.int.injEq,and_true,true_and]at hx ht
 obtain⟨rfl,rfl⟩:=hx
 subst ht
 have fZ:=mLt dA cE
 refine ZaB (λaB=>?_) (λbO=>?_)
 ·have aB:(i:Int) < (s.states.length:Int):=aB
  obtain⟨x,hx⟩:=Zfi (show i < s.states.length by omega)
  have dd:=hr.all x (zA2 hx)
  have kR:=dd.len
  unfold few at kR
  have hF:Ff s i=plS i x:=by unfold Ff;rw[hx]
  have dt:(Zdk i (Ff s)).length+(plS i x).length<=(Zdk s.states.length (Ff s)).length:=by
   have:=ZqM (show i+1<=s.states.length by omega) (Ff s)
   rw[ZbW,zA1,hF]at this;exact this
  rw[Zsz,List.length_cons]at dt
  obtain⟨b3,o3,ew,kW⟩:=Zaj Sta.len (hr.row.mono fZ) hx (by omega)
  refine⟨b3,o3,ew,⟨by omega,aB⟩,_,_,kW,λb4=>Zaa rfl λb5 iX=>?_⟩
  refine PI.app ⟨-1,i,-1,-1,-1⟩ hP (by rw[zA1];omega) iX λa' c' m5 cP hP=>Zaa rfl ?_
  have gV:=mLt fZ cP
  generalize uW:B++Zdk i (Ff s)=L1 at hP
  have iW:L1.length=B.length+(Zdk i (Ff s)).length:=by rw[<-uW,zA1]
  refine⟨λxs _ tks m' q=>∃(k:Nat)(v t:Value),k<=x.rules.length/\xs=[v,.int .i64 k]/\tks=[t]/\PI (L1++(⟨-1,i,-1,-1,-1⟩::Zdk k (Gf i x))) v t m'/\q=x.rules.length - k,⟨x.rules.length,0,_,_,by omega,rfl,rfl,by simpa[Zdk]using hP,rfl⟩,?_⟩
  rintro a n c k' a1 n2 c1 m6 q ef ⟨k,v,t,hk,hy,ht,hP,rfl⟩
  simp only[List.cons.injEq,Value.int.injEq,and_true,true_and]at hy ht
  obtain⟨rfl,rfl⟩:=hy
  subst ht
  have fC:=mLt gV ef
  refine ZaB (λdh=>?_) (λdP=>?_)
  ·have dh:(k:Int) < (x.rules.length:Int):=dh
   obtain⟨r,ib⟩:=Zfi (show k < x.rules.length by omega)
   have fM:=dd.all r (zA2 ib)
   have nV:=fM.len
   unfold few at nV
   have hG:Gf i x k=plR i k r:=by unfold Gf;rw[ib]
   have eY:(Zdk k (Gf i x)).length+(plR i k r).length<=(Zdk x.rules.length (Gf i x)).length:=by
    have:=ZqM (show k+1<=x.rules.length by omega) (Gf i x)
    rw[ZbW,zA1,hG]at this;exact this
   rw[Zsy,List.length_cons]at eY
   obtain⟨b6,o6,ij,mX⟩:=Zaj Ru.len (dd.row.mono fC) ib (by omega)
   refine Zaa rfl ⟨b6,o6,ij,⟨by omega,dh⟩,_,_,_,_,_,_,_,_,_,_,_,_,_,_,_,_,mX,λb7=>Zaa rfl λb8 np=>?_⟩
   refine PI.app ⟨-1,i,k,-1,-1⟩ hP (by rw[zA1,List.length_cons];omega) np λa' c' m7 eo hP=>Zaa rfl ?_
   have tf:=mLt fC eo
   generalize uX:L1++(⟨-1,i,-1,-1,-1⟩::Zdk k (Gf i x))=L2 at hP
   have ly:L2.length=L1.length+1+(Zdk k (Gf i x)).length:=by rw[<-uX,zA1,List.length_cons];omega
   refine⟨λxs _ tks m' q=>∃(j:Nat)(v t:Value),j<=r.acts.length/\xs=[v,.int .i64 j]/\tks=[t]/\PI (L2++(⟨-1,i,k,-1,-1⟩::Zdk j (Hf i k r))) v t m'/\q=r.acts.length - j,⟨r.acts.length,0,_,_,by omega,rfl,rfl,by simpa[Zdk]using hP,rfl⟩,?_⟩
   rintro a n c j' a1 n2 c1 m8 q eA ⟨j,v,t,hj,hy,ht,hP,rfl⟩
   simp only[List.cons.injEq,Value.int.injEq,and_true,true_and]at hy ht
   obtain⟨rfl,rfl⟩:=hy
   subst ht
   have nb:=mLt tf eA
   refine ZaB (λgw=>?_) (λil=>?_)
   ·have gw:(j:Int) < (r.acts.length:Int):=gw
    obtain⟨y,mY⟩:=Zfi (show j < r.acts.length by omega)
    have im:=fM.all y (zA2 mY)
    have tg:=im.n
    unfold few at tg
    have hH:Hf i k r j=plA i k j y:=by unfold Hf;rw[mY]
    have eZ:(Zdk j (Hf i k r)).length+(plA i k j y).length<=(Zdk r.acts.length (Hf i k r)).length:=by
     have:=ZqM (show j+1<=r.acts.length by omega) (Hf i k r)
     rw[ZbW,zA1,hH]at this;exact this
    rw[Zsx,List.length_cons,show(Zdk y.parts.length (Pf i k j)).length=y.parts.length from ZfN _ _]at eZ
    obtain⟨b9,o9,xi,xj⟩:=Zaj Ac.len (fM.row.mono nb) mY (by omega)
    refine Zaa rfl ⟨b9,o9,xi,⟨by omega,gw⟩,_,_,_,_,_,_,_,_,xj,λb10=>Zaa rfl λb11 ti=>?_⟩
    refine PI.app ⟨-1,i,k,j,-1⟩ hP (by rw[zA1,List.length_cons];omega) ti λa' c' m9 ga hP=>Zaa rfl ?_
    generalize qz:L2++(⟨-1,i,k,-1,-1⟩::Zdk j (Hf i k r))=L3 at hP
    have rK:L3.length=L2.length+1+(Zdk j (Hf i k r)).length:=by rw[<-qz,zA1,List.length_cons];omega
    refine⟨λxs _ tks m' q=>∃(w:Nat)(v t:Value),w<=y.parts.length/\xs=[v,.int .i64 w]/\tks=[t]/\PI (L3++(⟨-1,i,k,j,-1⟩::Zdk w (Pf i k j))) v t m'/\q=y.parts.length - w,⟨y.parts.length,0,_,_,by omega,rfl,rfl,by simpa[Zdk]using hP,rfl⟩,?_⟩
    rintro a n c w' a1 n2 c1 m10 q fu ⟨w,v,t,yv,hy,ht,hP,rfl⟩
    simp only[List.cons.injEq,Value.int.injEq,and_true,true_and]at hy ht
    obtain⟨rfl,rfl⟩:=hy
    subst ht
    have qH:(Zdk w (Pf i k j)).length=w:=ZfN _ _
    refine ZaB (λkY b12 tj=>?_) (λkZ=>?_)
    ·have kY:(w:Int) < (y.parts.length:Int):=kY
     refine PI.app ⟨-1,i,k,j,w⟩ hP (by rw[zA1,List.length_cons,qH];omega) tj λa' c' m' hm' hP'=>⟨rfl,rfl,y.parts.length - (w+1),by omega,w+1,_,_,by omega,by rw[hw w (by omega)],rfl,?_,rfl⟩
     rw[ZbW]
     simpa[Pf]using hP'
    ·have kZ:¬(w:Int) < (y.parts.length:Int):=kZ
     obtain rfl:w=y.parts.length:=by omega
     refine⟨rfl,rfl,r.acts.length - (j+1),by omega,j+1,_,_,by omega,by rw[hw j (by omega)],rfl,?_,rfl⟩
     rw[ZbW,hH,Zsx]
     rw[<-qz]at hP
     simpa using hP
   ·have il:¬(j:Int) < (r.acts.length:Int):=il
    obtain rfl:j=r.acts.length:=by omega
    refine⟨rfl,rfl,x.rules.length - (k+1),by omega,k+1,_,_,by omega,by rw[hw k (by omega)],rfl,?_,rfl⟩
    rw[ZbW,hG,Zsy]
    rw[<-uX]at hP
    simpa using hP
  ·have dP:¬(k:Int) < (x.rules.length:Int):=dP
   obtain rfl:k=x.rules.length:=by omega
   refine⟨rfl,rfl,s.states.length - (i+1),by omega,i+1,_,_,by omega,by rw[hw i (by omega)],rfl,?_,rfl⟩
   rw[ZbW,hF,Zsz]
   rw[<-uW]at hP
   simpa using hP
 ·have bO:¬(i:Int) < (s.states.length:Int):=bO
  obtain rfl:i=s.states.length:=by omega
  obtain⟨a0,c0,a10,n10,c10,h1,h2,h3,h4⟩:=hP
  have he:B++Zdk s.states.length (Ff s)=s.places:=by rw[qn,<-hB];rfl
  rw[he]at h1 h4
  rw[h1]
  exact⟨m4,fZ,Mem.le_refl _,a0,c0,rfl,h4⟩
end Go.Proofs.YtpjepnkiiojgfaaGreat
namespace Go.Proofs.YtpjepnkiiojgfaaGreat
open Go Go.Eng Go.Rx Go.Proofs Go.RowKit Go.Shelf
set_option maxRecDepth 100000
def Zyn:Ren:=⟨fun|125=>80|128=>119|129=>120|189=>36|215=>121|216=>116|257=>79|294=>110|295=>111|296=>112|297=>113|298=>114|299=>115|300=>117|301=>118|328=>143|329=>144|330=>145|331=>146|332=>147|343=>161|n=>n,
 fun|0=>0|3=>3|4=>4|5=>5|9=>9|28=>65|46=>151|51=>191|53=>37|131=>68|182=>183|183=>184|218=>210|222=>214|228=>227|229=>228|n=>n,λn=>n⟩
theorem ZrD:Lays.n189 Tryz.prog Zyn:=
 {mixed:=mix
  f125:=by kernel_rfl,f128:=by kernel_rfl,f129:=by kernel_rfl,f189:=by kernel_rfl,f215:=by kernel_rfl,f216:=by kernel_rfl,f257:=by kernel_rfl,f294:=by kernel_rfl,f295:=by kernel_rfl,f296:=by kernel_rfl,f297:=by kernel_rfl
  f298:=by kernel_rfl,f299:=by kernel_rfl,f300:=by kernel_rfl,f301:=by kernel_rfl,f328:=by kernel_rfl,f329:=by kernel_rfl,f330:=by kernel_rfl,f331:=by kernel_rfl,f332:=by kernel_rfl,f343:=by kernel_rfl
  t0:=by kernel_rfl,a0:=Tryz.isAgg0,z0:=Tryz.sizeOf0,v0:=Tryz.zeroValue0
  t3:=by kernel_rfl,a3:=Tryz.isAgg3,z3:=Tryz.sizeOf3,v3:=Tryz.zeroValue3
  t4:=by kernel_rfl,a4:=Tryz.isAgg4,z4:=Tryz.sizeOf4,v4:=Tryz.zeroValue4
  t5:=by kernel_rfl,a5:=Tryz.isAgg5,z5:=Tryz.sizeOf5,v5:=Tryz.zeroValue5
  t9:=by kernel_rfl,a9:=Tryz.isAgg9,z9:=Tryz.sizeOf9,v9:=Tryz.zeroValue9
  t28:=by kernel_rfl,a28:=Tryz.isAgg65,z28:=Tryz.sizeOf65,v28:=Tryz.zeroValue65
  t46:=by kernel_rfl,a46:=Tryz.isAgg151,z46:=Tryz.sizeOf151,v46:=Tryz.zeroValue151
  t51:=by kernel_rfl,a51:=Tryz.isAgg191,z51:=Tryz.sizeOf191,v51:=Tryz.zeroValue191
  t53:=by kernel_rfl,a53:=Tryz.isAgg37,z53:=Tryz.sizeOf37,v53:=Tryz.zeroValue37
  t131:=by kernel_rfl,a131:=Tryz.isAgg68,z131:=Tryz.sizeOf68,v131:=Tryz.zeroValue68
  t182:=by kernel_rfl,a182:=Tryz.isAgg183,z182:=Tryz.sizeOf183,v182:=Tryz.zeroValue183
  t183:=by kernel_rfl,a183:=Tryz.isAgg184,z183:=Tryz.sizeOf184,v183:=Tryz.zeroValue184
  t218:=by kernel_rfl,a218:=Tryz.isAgg210,z218:=Tryz.sizeOf210,v218:=Tryz.zeroValue210
  t222:=by kernel_rfl,a222:=Tryz.isAgg214,z222:=Tryz.sizeOf214,v222:=Tryz.zeroValue214
  t228:=by kernel_rfl,a228:=Tryz.isAgg227,z228:=Tryz.sizeOf227,v228:=Tryz.zeroValue227
  t229:=by kernel_rfl,a229:=Tryz.isAgg228,z229:=Tryz.sizeOf228,v229:=Tryz.zeroValue228 }
def Zej(l:List Int):List Value:=l.map (Value.int .i64)
abbrev Yi(v:Value):Nat->Prop:=λk=>(Tok.mk v 1).blk=some k
theorem ZjX(zs:List Int)(a:Option Addr)(c N:Nat)(m:Mem)(hr:rowRd m a (Zej zs))(hl:zs.length<=100000)(hN:zs.length<=N):
  CXY Tryz.prog 36 #[.slice a zs.length c] m (Yi (.slice a N c)) [] [⟨.slice a N c,1⟩]
   (λv m' css tvs=>v=.tuple #[]/\css=[]/\tvs=[.slice a N c]/\rowRd m' a (Zej (Zq8 zs))):=
 Ziy (Value.int .i64) (vf:=λ_=>.tuple #[]) (Go.Eng.Zgl Tryz.func36 (by kernel_rfl) (by kernel_rfl)) hr (Zob zs) hN
  (λ_ w=>Any.slices_Sort_int_none ZrD a c w)
  (λ_ b o w _ _ hH hb=>Any.slices_Sort_int ZrD b o c zs w hH hb (by omega))
theorem Zl0(zs:List Int)(a:Option Addr)(c:Nat)(m:Mem)(hr:rowRd m a (Zej zs))(hl:zs.length<=100000):
  CXY Tryz.prog 36 #[.slice a zs.length c] m (Yi (.slice a zs.length c)) [] [⟨.slice a zs.length c,1⟩]
   (λv m' css tvs=>v=.tuple #[]/\css=[]/\tvs=[.slice a zs.length c]/\rowRd m' a (Zej (Zq8 zs))):=ZjX zs a c zs.length m hr hl (Nat.le_refl _)
def ZBv:Ren:=⟨fun|43=>37|n=>n,fun|0=>0|3=>3|4=>4|22=>65|23=>3|n=>n,λn=>n⟩
theorem ZiG:SlLaysE.n43 Tryz.prog ZBv:=
 {mixed:=mix,f43:=⟨Tryz.f37.name,by kernel_rfl,by kernel_rfl⟩
  t0:=by kernel_rfl,a0:=Tryz.isAgg0,z0:=Tryz.sizeOf0,v0:=Tryz.zeroValue0
  t3:=Tryz.underlying3,a3:=Tryz.isAgg3,z3:=Tryz.sizeOf3,v3:=Tryz.zeroValue3
  t4:=Tryz.underlying4,a4:=Tryz.isAgg4,z4:=Tryz.sizeOf4,v4:=Tryz.zeroValue4
  t22:=Tryz.underlying65,a22:=Tryz.isAgg65,z22:=Tryz.sizeOf65,v22:=Tryz.zeroValue65
  a23:=Tryz.isAgg3,z23:=Tryz.sizeOf3 }
section
variable {P:Program} {ρ:Ren}
set_option maxHeartbeats 1000000 in
theorem Zl1(L:SlLaysE.n43 P ρ)(a:Option Addr)(cap:Nat)(w:World):Calls P (ρ.f 43) #[.slice a 0 cap] w λe w'=>e=.returned (.slice a 0 cap)/\w'=w:=by
 have mixed:=L.mixed;have t0:=L.t0;have a0:=L.a0;have z0:=L.z0;have v0:=L.v0;have t3:=L.t3;have a3:=L.a3;have z3:=L.z3;have v3:=L.v3;have t4:=L.t4;have a4:=L.a4;have z4:=L.z4;have v4:=L.v4;have t22:=L.t22;have a22:=L.a22;have z22:=L.z22;have v22:=L.v22;have a23:=L.a23;have z23:=L.z23
 obtain⟨_,_,FG⟩:=L.f43
 go_enter FG,SlBodyN.n43_ntmps ρ
 go_wp2
 go_ret
 exact⟨rfl,rfl⟩
end
theorem ZoL(zs:List Int):(Go.Lib.compact zs).length<=zs.length:=by
 unfold Go.Lib.compact Go.Lib.compactUpTo
 rw[List.length_map]
 exact Nat.le_trans (List.length_filter_le _ _) (by rw[List.length_range];exact Nat.le_refl _)
theorem Zf8(zs:List Int)(a:Option Addr)(c N:Nat)(m:Mem)(hr:rowRd m a (Zej zs))(hl:zs.length<=100000)(hN:zs.length<=N):
  CXY Tryz.prog 37 #[.slice a zs.length c] m (Yi (.slice a N c)) [] [⟨.slice a N c,1⟩]
   (λv m' css tvs=>v=.slice a (Go.Lib.compact zs).length c/\css=[]/\tvs=[.slice a N c]/\rowRd m' a (Zej (Go.Lib.compact zs++List.replicate (zs.length - (Go.Lib.compact zs).length) 0))):=by
 have fg:=ZoL zs
 refine Ziy (Value.int .i64) (vf:=λa=>.slice a (Go.Lib.compact zs).length c) (Go.Eng.Zgl Tryz.func37 (by kernel_rfl) (by kernel_rfl)) hr (by rw[zA1,List.length_replicate];omega) hN
  (λh w=>?_) (λ_ b o w ha hc hH hb=>?_)
 ·subst h;exact Zl1 ZiG a c w
 ·refine(AnyE.slices_Compact ZiG (Value.int .i64) (λ_=>rfl) (EqlAt.intD _ _ _) (NeqAt.intD _ _ _) 0 (λw=>Tryz.zeroValue3 w) b o c zs.toArray w hH (by simp;omega) (by simpa using hc)).mono ?_
  rintro e w' ⟨h1,q,h2⟩
  refine⟨by rw[h1,ha];rfl,q,#[],?_⟩
  rw[h2,Zvm]
  rfl
theorem Zhb(zs:List Int)(a:Option Addr)(c:Nat)(m:Mem)(hr:rowRd m a (Zej zs))(hl:zs.length<=100000):
  CXY Tryz.prog 37 #[.slice a zs.length c] m (Yi (.slice a zs.length c)) [] [⟨.slice a zs.length c,1⟩]
   (λv m' css tvs=>v=.slice a (Go.Lib.compact zs).length c/\css=[]/\tvs=[.slice a zs.length c]/\rowRd m' a (Zej (Go.Lib.compact zs++List.replicate (zs.length - (Go.Lib.compact zs).length) 0))):=Zf8 zs a c zs.length m hr hl (Nat.le_refl _)
end Go.Proofs.YtpjepnkiiojgfaaGreat