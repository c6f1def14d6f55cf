/- Part of the proof: conditions and contracts of functions of this program. No condition of its own. -/
import Derived.Test.YtplacemlpkhmfaaPC13D
import Derived.Test.YtplacemlpkhmfaaMr
set_option linter.unusedVariables false
set_option linter.unusedSimpArgs false
set_option linter.unusedSectionVars false
namespace Go.Proofs.Ytplacemlpkhmfaa
open Go Go.Eng Go.Rx Go.Proofs Go.RowKit
set_option maxRecDepth 100000
theorem ZpE(t:T)(a:Option Addr)(len c:Nat)(i:Int)(m:Mem)(hr:Rep m t):CX Try.prog 88 #[t.v,.slice a len c,.int .i64 i] m [] (Ret (.int .i64 (t.wrong len i))):=by
 apply ZiY
 unfold ZfS
 intro b m1 bJ _
 refine⟨t.isNone,Zab (fun h=>Zak (Zuw t T0 m1 (hr.mono bJ) (ZwE m1)) fun m2 bT=>⟨by trivial,Zav ?_⟩) (fun h=>⟨by trivial,Zav ?_⟩),!t.isNone&&!(t.check == 0),Zab (fun h=>ZcB (Zvu false false t m1 (hr.mono bJ)) fun m2 bT=>⟨by trivial,Zav ?_⟩) (fun h=>⟨by trivial,Zav ?_⟩),Zab (fun h=>Zac bJ ?_) (fun h=>Zab (fun h1=>Zac bJ ?_) (fun h1=>⟨decide (i < 0)||decide (i > len),Zab (fun h2=>⟨by trivial,Zav ?_⟩) (fun h2=>⟨by trivial,Zav ?_⟩),Zab (fun h3=>Zac bJ ?_) (fun h3=>Zac bJ ?_)⟩))⟩
 ·unfold T.isNone;rw[h];rfl
 ·unfold T.isNone;rw[h];rfl
 ·rw[h];rfl
 ·rw[h];rfl
 ·unfold T.wrong;rw[if_pos h]
 ·unfold T.wrong;rw[if_neg (by rw[h];decide),if_pos (of_decide_eq_true h1)]
 ·rw[h2];rfl
 ·rw[h2];rfl
 ·unfold T.wrong;rw[if_neg (by rw[h];decide),if_neg (of_decide_eq_false h1),if_pos (by simpa using h3)]
 ·unfold T.wrong;rw[if_neg (by rw[h];decide),if_neg (of_decide_eq_false h1),if_neg (by simpa using h3)]
def Ztw(l:List Nat):List Value:=l.map fun i:Nat=>.int .i64 (i:Nat)
def ZxI(e:Int)(l:List Nat):Value→Mem→List (List Value)→Prop:=fun v m' _=>∃a c,v=.tuple #[.slice a l.length c,.int .i64 e]∧rowRd m' a (Ztw l)
theorem Zm0{e l}:∀(v:Value)(m':Mem) (css:List (List Value)),ZxI e l v m' css→Shape.fits (.tup [.slice,.int .i64]) v=true:=fun v _ _ ⟨a,c,h,_⟩=>by rw[h];rfl
def T.list(t:T)(s:List Nat)(i:Int)(back:Bool):List Nat:=if t.wrong s.length i=0 then ZeM (t.lead s back (2 ^ i.toNat))else[]
theorem Zq6{l:List Nat}{q i:Nat}(h:l[q]?=some i):Ztw (l.take q)++[.int .i64 (i:Nat)]=Ztw (l.take (q+1)):=by
 unfold Ztw
 rw[ZrQ h,List.map_append];rfl
theorem ZwZ(t:T)(a:Option Addr)(s:List Nat)(c:Nat)(i:Int)(back:Bool)(m:Mem)(hr:Rep m t)(hb:t.wrong s.length i=0→Byt m a s):CX Try.prog 94 #[t.v,.slice a s.length c,.int .i64 i,.bool back] m [] (ZxI (t.wrong s.length i) (T.list t s i back)):=by
 apply Zj2
 unfold ZgO
 intro b m1 bJ _
 refine ZcB (ZpE t a s.length c i m1 (hr.mono bJ)) fun m2 bT=>Zab (fun h=>?_) (fun h b1=>?_)
 ·have h':¬t.wrong s.length i=0:=by simpa using h
  refine Zac (Mem.le_trans bJ bT) ⟨none,0,?_,.inl ?_⟩ <;> unfold T.list <;> rw[if_neg h'] <;> rfl
 ·have h':t.wrong s.length i=0:=by simpa using h
  obtain⟨hw,hs,vp,iv⟩:=Zuj h'
  obtain⟨n,rfl⟩:∃n:Nat,i=n:=⟨i.toNat,by omega⟩
  have dG:m.le m2:=Mem.le_trans bJ bT
  have mJ:(2:Nat) ^ n < Zcl:=Zug (by omega)
  refine⟨fun j _ _=>if j=5 then Ret (plV (2 ^ n))else Ret (plV (t.lead s back (2 ^ n))),Ret (plV (2 ^ n)),rfl,ZwT n (by omega) m2,Zbi,ZnW fun m3 cH=>⟨Ret (plV (t.lead s back (2 ^ n))),rfl,Zsj a s c back hs t hw (2 ^ n) m3 mJ (hr.mono (Mem.le_trans dG cH)) ((hb h').mono (Mem.le_trans dG cH)),Zbi,ZnW fun m4 cQ b2 M dR gW eJ m5 cW gu=>Zap (ZxZ (t.lead s back (2 ^ n)) b2 m5 gu) (fun v _ _ ⟨c,e,_⟩=>by rw[e];rfl) ?_⟩⟩
  rintro g fi ca m6 eV ⟨cb,hv,lE⟩
  simp only[Value.func.injEq,Fn.func.injEq,Array.mk.injEq]at hv
  obtain⟨rfl,rfl,rfl⟩:=hv
  have nw:m.le m6:=Mem.le_trans dG (Mem.le_trans dR (Mem.le_trans cW eV))
  have hL:T.list t s (n:Int) back=ZeM (t.lead s back (2 ^ n)):=by unfold T.list;rw[if_pos h'];rfl
  rw[hL,h']
  generalize hX:ZeM (t.lead s back (2 ^ n))=X
  have wE:X.length≤513:=by rw[←hX];exact Zvg _
  refine⟨X.map fun i=>[.int .i64 (i:Nat)],?_,?_,?_⟩
  ·rw[←hX];exact ZwW _ b2 cb m6 (gu.mono eV) lE
  ·intro x hx
   obtain⟨y,_,rfl⟩:=List.mem_map.1 hx
   rfl
  refine⟨fun xs css tvs m' q=>∃a' c',css=[[.slice a' q c']]∧tvs=[.slice a' q c']∧rowRd m' a' (Ztw (X.take q)),⟨none,0,rfl,rfl,.inl rfl⟩,?_,?_⟩
  ·rintro z cs a1 n1 c1 m7 q jb hq ⟨a',c',cK,dE,bZ⟩
   obtain rfl:cs=[.slice a' q c']:=by simpa using cK
   obtain⟨rfl,rfl,rfl⟩:a1=a'∧n1=q∧c1=c':=by simpa using dE
   have hq':(X.map fun i=>[Value.int .i64 (i:Nat)])[(n1:Nat)]?=some [.int .i64 z]:=hq
   rw[List.getElem?_map]at hq'
   obtain⟨y,hy,hz⟩:=Option.map_eq_some_iff.1 hq'
   obtain rfl:z=y:=(Zwu hz).symm
   have bS:=(List.getElem?_eq_some_iff.1 hy).1
   refine Zam rfl fun b3 cA=>Zaa rfl ⟨.inl rfl,Ztw (X.take n1),[.int .i64 y],?_,rfl,bZ.mono (Mem.le_add cA _),.inr ⟨b3,0,rfl,?_⟩,?_,?_,?_,?_⟩
   ·simp[Ztw,slN];omega
   ·intro j v hj;rw[Nat.zero_add,Mem.add_same];exact hj
   ·intro u hu;obtain rfl:u=.int .i64 y:=by simpa using hu
    rfl
   ·simp only[slN];omega
   ·simp only[slN];omega
   ·intro a2 c2 m8 kH gj
    refine⟨by trivial,a2,c2,rfl,rfl,?_⟩
    rw[←Zq6 hy];exact gj
  ·rintro cs a1 n1 c1 m7 jb ⟨a',c',cK,dE,bZ⟩
   rw[List.length_map]at cK dE bZ
   obtain rfl:cs=[.slice a' X.length c']:=by simpa using cK
   rw[List.take_length]at bZ
   exact Zam rfl ⟨m7,Mem.le_trans nw jb,Mem.le_refl _,a',c',rfl,bZ⟩
theorem Ztx(t:T)(a:Option Addr)(s:List Nat)(c:Nat)(i:Int)(m:Mem)(hr:Rep m t)(hb:t.wrong s.length i=0→Byt m a s):CX Try.prog 38 #[t.v,.slice a s.length c,.int .i64 i] m [] (ZxI (t.wrong s.length i) (T.list t s i true)):=by
 apply ZhV
 unfold ZeG
 intro b m1 bJ _
 refine Zap (ZwZ t a s c i true m1 (hr.mono bJ) (fun h=>(hb h).mono bJ)) Zm0 ?_
 intro a1 n1 c1 e1 m2 bT h
 exact⟨m2,Mem.le_trans bJ bT,Mem.le_refl _,h⟩
def T.matches(t:T)(s:List Nat):Bool:=t.wrong s.length 0 == 0&&(t.lead s false 1).testBit s.length
theorem Zq7(t:T)(a:Option Addr)(s:List Nat)(c:Nat)(m:Mem)(hr:Rep m t)(hb:t.wrong s.length 0=0→Byt m a s):CX Try.prog 36 #[t.v,.slice a s.length c] m [] (Ret (.tuple #[.bool (T.matches t s),.int .i64 (t.wrong s.length 0)])):=by
 apply Zhe
 unfold ZdZ
 intro b m1 bJ _
 refine ZcB (ZpE t a s.length c 0 m1 (hr.mono bJ)) fun m2 bT=>Zab (fun h=>?_) (fun h=>?_)
 ·have h':¬t.wrong s.length 0=0:=by simpa using h
  refine Zac (Mem.le_trans bJ bT) ?_
  unfold T.matches
  rw[show(t.wrong s.length 0 == 0)=false by simpa using h'];rfl
 ·have h':t.wrong s.length 0=0:=by simpa using h
  obtain⟨hw,hs,vp,iv⟩:=Zuj h'
  have dG:m.le m2:=Mem.le_trans bJ bT
  have mJ:(2:Nat) ^ 0 < Zcl:=Zug (by omega)
  refine⟨fun j _ _=>if j=3 then Ret (plV (2 ^ 0))else Ret (plV (t.lead s false (2 ^ 0))),Ret (plV (2 ^ 0)),rfl,ZwT 0 (by omega) m2,Zbi,ZnW fun m3 cH=>⟨Ret (plV (t.lead s false (2 ^ 0))),rfl,Zsj a s c false hs t hw (2 ^ 0) m3 mJ (hr.mono (Mem.le_trans dG cH)) ((hb h').mono (Mem.le_trans dG cH)),Zbi,ZnW fun m4 cQ b2 M dR gW eJ m5 cW gu=>Zak (ZpD (t.lead s false (2 ^ 0)) s.length (by omega) b2 m5 gu) fun m6 eV=>Zac (Mem.le_trans dG (Mem.le_trans dR (Mem.le_trans cW eV))) ?_⟩⟩
  unfold T.matches
  rw[h'];rfl
end Go.Proofs.Ytplacemlpkhmfaa

