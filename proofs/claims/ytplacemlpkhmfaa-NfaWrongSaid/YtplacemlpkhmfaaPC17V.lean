/- Part of the proof: conditions and contracts of functions of this program. No condition of its own. -/
import Derived.Test.YtplacemlpkhmfaaPVNW
import Derived.Test.YtplacemlpkhmfaaPC13N
import Derived.Test.YtplacemlpkhmfaaPC17L
import Derived.Test.YtplacemlpkhmfaaPC17N
import Derived.Test.YtplacemlpkhmfaaPC17O
set_option linter.unusedVariables false
set_option linter.unusedSimpArgs false
namespace Go.Proofs.Ytplacemlpkhmfaa
open Go Go.Eng Go.Rx Go.Proofs Go.RowKit
set_option maxRecDepth 100000
def ZwR(t:T):List Value:=[.int .u64 t.s0,.int .u64 t.s1,.int .u64 t.s2,.int .u64 t.s3]
theorem Zxn:∀c:Fin 256,IntKind.u64.wrap (((BitVec.ofInt 64 0|||BitVec.ofInt 64 (IntKind.u64.wrap (1*2 ^ min (IntKind.u8.wrap ((BitVec.ofInt 8 (c.val:Int)&&&BitVec.ofInt 8 63).toNat:Int)).toNat 64))).toNat:Nat):Int)=((2 ^ (c.val % 64):Nat):Int):=by decide +kernel
theorem ZwS{c:Nat}(hc:c < 256):IntKind.u64.wrap (((BitVec.ofInt 64 0|||BitVec.ofInt 64 (IntKind.u64.wrap (1*2 ^ min (IntKind.u8.wrap ((BitVec.ofInt 8 (c:Int)&&&BitVec.ofInt 8 63).toNat:Int)).toNat 64))).toNat:Nat):Int)=((2 ^ (c % 64):Nat):Int):=Zxn ⟨c,hc⟩
theorem ZvU:∀c:Fin 256,(0:Int)≤IntKind.u8.wrap ((BitVec.ofInt 8 (c.val:Int)&&&BitVec.ofInt 8 63).toNat:Int)∧Int.fdiv (c.val:Int) (2 ^ 6)=((c.val / 64:Nat):Int):=by decide +kernel
def Zwl(t:T):Value:=.agg (ZwR t).toArray
theorem ZpD(c:Nat)(hc:c < 256)(b o k:Nat)(m:Mem)(h:m b o=some (.int .u8 (c:Nat))):CX Try.prog 76 #[.slice (some ⟨b,o,none⟩) 1 k] m [] (Ret (Zwl (Zaq c))):=by
 apply Zpm
 unfold Zls
 intro b1 b2
 have hs:=ZvU ⟨c,hc⟩
 simp only at hs
 refine⟨fun xs css tvs m' q=>(xs=[.int .i64 0]∧css=[[.int .u64 0,.int .u64 0,.int .u64 0,.int .u64 0]]∧q=1)∨(xs=[.int .i64 1]∧css=[ZwR (Zaq c)]∧q=0),⟨1,.inl ⟨rfl,rfl,rfl⟩⟩,?_⟩
 rintro n cs m1 q bH (⟨hx,cH,hq⟩|⟨hx,cH,hq⟩)
 ·obtain rfl:n=0:=by simpa using hx
  obtain rfl:cs=_:=by simpa using cH
  refine Zqp rfl ⟨b,o,rfl,⟨by omega,by omega⟩,.int .u8 (c:Nat),?_,Zaa rfl ⟨by decide,?_,?_⟩⟩
  ·have:=bH _ _ _ h
   simpa using this
  ·show Zaf (Int.fdiv (c:Int) (2 ^ 6)) 4
   rw[hs.2]
   exact⟨by omega,by omega⟩
  ·show Eng.Zr2 _ (0+(Int.fdiv (c:Int) (2 ^ 6)).toNat*1) _
   rw[hs.2,Int.toNat_natCast,Nat.mul_one,Nat.zero_add]
   have hj:c / 64=0∨c / 64=1∨c / 64=2∨c / 64=3:=by omega
   have iO:([.int .u64 0,.int .u64 0,.int .u64 0,.int .u64 0]:List Value)[c / 64]?=some (.int .u64 0):=by
    rcases hj with e|e|e|e <;> rw[e] <;> rfl
   refine Zap iO (Zaa rfl ⟨hs.1,Zaa rfl ⟨?_,Zaa ?_ ⟨by trivial,0,by omega,.inr ⟨?_,?_,rfl⟩⟩⟩⟩)
   ·show Zaf (Int.fdiv (c:Int) (2 ^ 6)) 4
    rw[hs.2]
    exact⟨by omega,by omega⟩
   ·show Nat.ble (0+(Int.fdiv (c:Int) (2 ^ 6)).toNat*1+1) 4=true
    rw[hs.2]
    rw[Nat.ble_eq]
    omega
   ·rw[Zax (by omega) (by omega)];rfl
   ·show[Zan _ (0+(Int.fdiv (c:Int) (2 ^ 6)).toNat*1) [.int .u64 (IntKind.u64.wrap (((BitVec.ofInt 64 0|||BitVec.ofInt 64 (IntKind.u64.wrap (1*2 ^ min (IntKind.u8.wrap ((BitVec.ofInt 8 (c:Int)&&&BitVec.ofInt 8 63).toNat:Int)).toNat 64))).toNat:Nat):Int))]]=_
    rw[hs.2,ZwS hc,Int.toNat_natCast,Nat.mul_one,Nat.zero_add]
    unfold ZwR Zaq T.s0 T.s1 T.s2 T.s3 ZbJ
    rcases hj with e|e|e|e <;> simp[e,Zan]
 ·obtain rfl:n=1:=by simpa using hx
  obtain rfl:cs=_:=by simpa using cH
  exact Zlr rfl (Zaa rfl (Zah bH rfl))
theorem ZuU(a b c d:Int)(hz:¬(a=0∧b=0∧c=0∧d=0))(m:Mem)(hr:Rep m (.node 2 a b c d 0 0 none 0 [])):CX Try.prog 75 #[.agg #[.int .u64 a,.int .u64 b,.int .u64 c,.int .u64 d]] m [] (Zjj fun t=>t=.node 2 a b c d 0 0 none 0 []):=by
 apply Ztn
 unfold Zqs
 intro b1 m1 bH _ b2
 refine⟨_,ZnX _ _ _ _ _ _ _ _,Zlr ?_ ⟨m1,bH,Mem.le_refl _,_,rfl,hr.mono bH,rfl⟩⟩
 cases h:(a == 0&&b == 0&&c == 0&&d == 0)with
 | false=>rfl
 | true=>simp only[Bool.and_eq_true,beq_iff_eq]at h;exact absurd ⟨h.1.1.1,h.1.1.2,h.1.2,h.2⟩ hz
theorem ZrY(c:Nat)(hc:c < 256):¬(ZbJ c 0=0∧ZbJ c 1=0∧ZbJ c 2=0∧ZbJ c 3=0):=by
 rintro⟨h0,h1,h2,h3⟩
 have hp:(0:Int) < ((2 ^ (c % 64):Nat):Int):=by
  have:0 < 2 ^ (c % 64):=Nat.two_pow_pos _
  omega
 have hj:c / 64=0∨c / 64=1∨c / 64=2∨c / 64=3:=by omega
 unfold ZbJ at h0 h1 h2 h3
 rcases hj with e|e|e|e
 ·rw[if_pos e]at h0;omega
 ·rw[if_pos e]at h1;omega
 ·rw[if_pos e]at h2;omega
 ·rw[if_pos e]at h3;omega
theorem ZuV(c:Nat)(hc:c < 256)(m:Mem):CX Try.prog 25 #[.int .u8 (c:Nat)] m [] (Zjj fun t=>t=Zaq c):=by
 apply Zpn
 unfold Zlt
 intro b0 b1 hf
 refine Zam (ZpD c hc b1 0 1 _ (Mem.le_refl _ _ _ _ (by rw[Mem.add_same];rfl))) (fun v _ _ e=>by rw[e];rfl) ?_
 rintro n1 n2 n3 n4 m1 bH hv
 simp only[Ret,Zwl,ZwR,Value.agg.injEq,Array.mk.injEq,List.cons.injEq,Value.int.injEq,true_and,and_true]at hv
 obtain⟨rfl,rfl,rfl,rfl⟩:=hv
 refine Zam (ZuU _ _ _ _ (ZrY c hc) m1 (ZeO c m1)) Zb8 (ZgY fun t' m2 bN hr' ht'=>?_)
 subst ht'
 exact⟨m2,Mem.le_trans (Mem.le_add hf _) (Mem.le_trans bH bN),Mem.le_refl _,_,rfl,hr',rfl⟩
theorem ZpE{st:Bool}(A:Nf)(v:Value)(l:List Int)(a:Option Addr)(c:Nat)(m:Mem)(h:NfR st A v m)(hl:rowRd m a (ZaA l))(eL:l.length≤1000000)(he:A.err l≠0):
  CX Try.prog 28 #[v,.slice a l.length c] m [] (Ret (.tuple #[.bool false,.int .i64 (A.err l)])):=by
 have h':=h
 obtain⟨s,f,x,y,rfl,⟨sa,sc,rfl,hs',eP,jd⟩,⟨fa,fc,vs,rfl,hf,ie,iE,iM⟩,⟨xa,xc,rfl,hx,gd,hU⟩,⟨ya,yc,rfl,hy,eI,iN⟩⟩:=h
 apply ZfW
 unfold ZdQ
 intro b m1 bH _
 refine ZdM (ZqC A _ l a c m1 (h'.mono bH) (hl.mono bH) eL) fun m2 bN=>Zqp (by simpa using he) (Zah (Mem.le_trans bH bN) rfl)
abbrev V5(sa:Option Addr)(sn sc:Nat)(fa:Option Addr)(fn fc:Nat)(xa:Option Addr)(xn xc:Nat)(ya:Option Addr)(yn yc:Nat)(e:Bool):Value:=.agg #[.slice sa sn sc,.slice fa fn fc,.slice xa xn xc,.slice ya yn yc,.bool e]
def WR(v:Value)(m:Mem):Prop:=∀m',m.le m'→CX Try.prog 21 #[v] m' [] (Ret (.bool false))
theorem WR.mono{v:Value}{m m':Mem}(h:WR v m)(k:m.le m'):WR v m':=fun M hM=>h M (Mem.le_trans k hM)
theorem Zvv{st:Bool}{B:Nf}{v:Value}{m:Mem}(h:NfR st B v m)(hr:B.right=false):WR v m:=fun m' hm=>by
 have:=Zip B v m' (h.mono hm)
 rw[hr]at this;exact this
section
variable {sa:Option Addr} {sn sc:Nat} {fa:Option Addr} {fn fc:Nat} {xa:Option Addr} {xn xc:Nat} {ya:Option Addr} {yn yc:Nat} {e:Bool} {m:Mem}
theorem ZvV(h:400 < sn):WR (V5 sa sn sc fa fn fc xa xn xc ya yn yc e) m:=fun m' hm=>by
 apply Zc6
 unfold Zcl
 intro b m1 bH _
 exact⟨true,Zqp (by rw[decide_eq_true_eq];omega) ⟨by trivial,rfl⟩,Zqp rfl (Zah bH rfl)⟩
theorem ZqE(h:WR (V5 sa sn sc fa fn fc xa xn xc ya yn yc e) m)(a:Option Addr)(n c:Nat):CX Try.prog 78 #[V5 sa sn sc fa fn fc xa xn xc ya yn yc e,.slice a n c] m [] (Ret (.int .i64 171)):=by
 apply ZhT
 unfold ZfA
 intro b m1 bH _
 exact Zaj (h m1 bH) fun m2 bN=>Zqp rfl (Zah (Mem.le_trans bH bN) rfl)
theorem ZuW(h:WR (V5 sa sn sc fa fn fc xa xn xc ya yn yc e) m)(a:Option Addr)(n c:Nat)(x:Int):CX Try.prog 27 #[V5 sa sn sc fa fn fc xa xn xc ya yn yc e,.slice a n c,.int .u8 x] m [] (Ret (.tuple #[.slice none 0 0,.int .i64 171])):=by
 apply ZjB
 unfold ZgP
 intro b m1 bH _
 exact ZdM (ZqE (h.mono bH) a n c) fun m2 bN=>Zqp rfl (Zah (Mem.le_trans bH bN) rfl)
theorem ZpF(h:WR (V5 sa sn sc fa fn fc xa xn xc ya yn yc e) m)(a:Option Addr)(n c:Nat):CX Try.prog 28 #[V5 sa sn sc fa fn fc xa xn xc ya yn yc e,.slice a n c] m [] (Ret (.tuple #[.bool false,.int .i64 171])):=by
 apply ZfW
 unfold ZdQ
 intro b m1 bH _
 exact ZdM (ZqE (h.mono bH) a n c) fun m2 bN=>Zqp rfl (Zah (Mem.le_trans bH bN) rfl)
theorem ZuX(h:WR (V5 sa sn sc fa fn fc xa xn xc ya yn yc e) m)(ba:Option Addr)(bn bc:Nat)(z:Bool)(g b1:Nat)(ca:List Value):CXY Try.prog 80 #[V5 sa sn sc fa fn fc xa xn xc ya yn yc e,.slice ba bn bc,.bool z,.func (.func g) #[] ca.toArray] m (fun k=>(Tok.mk (.slice none 0 0) 1).blk=some k) [⟨b1,[.slice none 0 0],24,1,false,true⟩] [⟨.slice none 0 0,1⟩]
  (fun v m' css tvs=>v=.int .i64 171∧m.le m'∧css=[[.slice none 0 0]]):=by
 apply ZjC (p3fi:=[]) (p3ca:=ca)
 unfold Zin
 intro b3 m3 cG _ _ _
 exact Zaj (h m3 cG) fun m4 cY=>Zqp rfl ⟨rfl,rfl,Mem.le_trans cG cY,rfl⟩
theorem ZuY(h:WR (V5 sa sn sc fa fn fc xa xn xc ya yn yc e) m)(ba:Option Addr)(bn bc:Nat):CX Try.prog 29 #[V5 sa sn sc fa fn fc xa xn xc ya yn yc e,.slice ba bn bc] m [] (Ret (.tuple #[.slice none 0 0,.int .i64 171])):=by
 apply Zlx
 unfold Zio
 intro b m1 bH sd _ _ b1
 refine ZkH (ZuX (h.mono bH) ba bn bc false _ b1 _) (by rintro v m' css tvs ⟨rfl,_⟩;rfl) ?_
 rintro n m2 iT _ cs a c d ⟨hn,bN,cH⟩
 simp only[Value.int.injEq,true_and]at hn
 subst hn
 obtain rfl:cs=[.slice none 0 0]:=by simpa using cH
 exact Zap (v:=.slice none 0 0) rfl ⟨m2,Mem.le_trans bH bN,Mem.le_refl _,rfl⟩
theorem ZrZ(h:WR (V5 sa sn sc fa fn fc xa xn xc ya yn yc e) m)(ba:Option Addr)(bn bc:Nat):CX Try.prog 30 #[V5 sa sn sc fa fn fc xa xn xc ya yn yc e,.slice ba bn bc] m [] (Ret (.tuple #[.slice none 0 0,.int .i64 171])):=by
 apply ZgQ
 unfold ZeD
 intro b m1 bH sd _ _ b1
 refine ZkH (ZuX (h.mono bH) ba bn bc true _ b1 _) (by rintro v m' css tvs ⟨rfl,_⟩;rfl) ?_
 rintro n m2 iT _ cs a c d ⟨hn,bN,cH⟩
 simp only[Value.int.injEq,true_and]at hn
 subst hn
 obtain rfl:cs=[.slice none 0 0]:=by simpa using cH
 exact Zap (v:=.slice none 0 0) rfl ⟨m2,Mem.le_trans bH bN,Mem.le_refl _,rfl⟩
theorem ZpG(h:WR (V5 sa sn sc fa fn fc xa xn xc ya yn yc e) m)(ba:Option Addr)(bn bc:Nat):CX Try.prog 18 #[V5 sa sn sc fa fn fc xa xn xc ya yn yc e,.slice ba bn bc] m [] (Ret (.tuple #[.bool false,.int .i64 171])):=by
 apply ZfY
 unfold ZdR
 intro b m1 bH _
 refine Zam (ZuY (h.mono bH) ba bn bc) (by rintro v m' css rfl;rfl) ?_
 rintro a n c n1 m2 bN hv
 simp only[Ret,Value.tuple.injEq,Array.mk.injEq,List.cons.injEq,Value.slice.injEq,Value.int.injEq,true_and,and_true]at hv
 obtain⟨⟨rfl,rfl,rfl⟩,rfl⟩:=hv
 exact⟨false,171,Zlr rfl ⟨by trivial,rfl⟩,Zah (Mem.le_trans bH bN) rfl⟩
theorem ZsG(h:WR (V5 sa sn sc fa fn fc xa xn xc ya yn yc e) m):CX Try.prog 16 #[V5 sa sn sc fa fn fc xa xn xc ya yn yc e] m [] (NfE nf0 171):=by
 apply ZjH
 unfold ZgT
 intro b m1 bH _ kn iP b1
 exact Zaj (h m1 bH) fun m2 bN=>Zqp rfl ⟨_,Mem.le_trans bH bN,Mem.le_refl _,_,rfl,ZuR _⟩
theorem ZuZ(h:WR (V5 sa sn sc fa fn fc xa xn xc ya yn yc e) m):CX Try.prog 20 #[V5 sa sn sc fa fn fc xa xn xc ya yn yc e] m [] (Ret (.tuple #[.slice none 0 0,.int .i64 171])):=by
 apply Zob
 unfold ZjD
 intro b m1 bH _
 refine Zam (ZsG (h.mono bH)) ZeE ?_
 rintro a0 n0 c0 a1 n1 c1 a2 n2 c2 a3 n3 c3 b5 e m2 bN ⟨w,hv,kK⟩
 simp only[Value.tuple.injEq,Array.mk.injEq,List.cons.injEq,Value.int.injEq,true_and,and_true]at hv
 obtain⟨rfl,rfl⟩:=hv
 intro b2
 exact Zqp rfl ⟨_,Mem.le_trans bH bN,Mem.le_refl _,rfl⟩
end
end Go.Proofs.Ytplacemlpkhmfaa

