/- Part of the proof: conditions and contracts of functions of this program. No condition of its own. -/
import Derived.Test.YtplacemlpkhmfaaPVNE
import Derived.Test.YtplacemlpkhmfaaPC17O
import Derived.Test.YtplacemlpkhmfaaPC13G
import Derived.Test.YtplacemlpkhmfaaMr
set_option linter.unusedVariables false
set_option linter.unusedSimpArgs false
namespace Go.Proofs.Ytplacemlpkhmfaa
open Go Go.Eng Go.Rx Go.Proofs Go.RowKit
set_option maxRecDepth 100000
def q1(c:Nat):QS:=(ZbW c 0,ZbW c 1,ZbW c 2,ZbW c 3)
theorem Zlm(c:Nat)(hc:c < 256)(m:Mem):CX Try.prog 52 #[.int .u8 c] m [] (Ret (.agg #[.int .u64 (ZbW c 0),.int .u64 (ZbW c 1),.int .u64 (ZbW c 2),.int .u64 (ZbW c 3)])):=by
 apply Zl0
 unfold ZhI
 intro b b1
 have hq:IntKind.u8.wrap (Int.tdiv (c:Int) 64)=((c / 64:Nat):Int):=by rw[Zt3];exact ZvT (by omega) (by omega)
 have hr:IntKind.u64.wrap (1*2 ^ min (Int.toNat (Int.tmod (c:Int) 64)) 64)=((2 ^ (c % 64):Nat):Int):=by
  rw[Zrc,Int.toNat_natCast,Nat.min_eq_left (by omega),Int.one_mul]
  have:=Zta (2 ^ (c % 64)) (by
   have:2 ^ (c % 64) < 2 ^ 64:=Nat.pow_lt_pow_right (by omega) (by omega)
   exact this)
  rw[←this];push_cast;rfl
 simp only[hq,hr,Int.toNat_natCast,Nat.zero_add,Nat.mul_one]
 refine⟨by omega,by omega,by rw[Zrc];omega,⟨by omega,by omega⟩,Zaa (by rw[Nat.ble_eq];omega) ?_⟩
 have:c / 64=0∨c / 64=1∨c / 64=2∨c / 64=3:=by omega
 rcases this with e|e|e|e <;>
 ·rw[e]
  refine Zaa rfl (Zad (Mem.le_refl _) ?_)
  unfold ZbW
  rw[e]
  rfl
theorem Zid(c:Nat)(hc:c < 256)(m:Mem):CX Try.prog 51 #[.int .u8 c] m [] (Ret (Zbh c).v):=by
 apply ZhJ
 unfold ZeO
 intro b
 refine Zat (Zlm c hc m) (by rintro v m' css rfl;rfl) ?_
 intro n n1 n2 n3 m1 bD hv
 simp only[Ret,Value.agg.injEq,Array.mk.injEq,List.cons.injEq,Value.int.injEq,true_and,and_true]at hv
 obtain⟨rfl,rfl,rfl,rfl⟩:=hv
 exact Zad bD rfl
theorem Zdk{c:Nat}:∀(v:Value)(m':Mem) (css:List (List Value)),Ret (Zbh c).v v m' css→Shape.fits (.agg [.int .u8,.int .u64,.int .u64,.int .u64,.int .u64,.int .i64,.int .i64,.slice]) v=true:=by
 rintro v m' css rfl;rfl
theorem Zie{c:Nat}{m:Mem}{K:TRK}(k:∀m',m.le m'→K 2 (ZbW c 0) (ZbW c 1) (ZbW c 2) (ZbW c 3) 0 0 none 0 0 m'):
  ∀(n0 n1 n2 n3 n4 n5 n6:Int)(a:Option Addr)(n cc:Nat)(m':Mem),m.le m'→Ret (Zbh c).v (.agg #[.int .u8 n0,.int .u64 n1,.int .u64 n2,.int .u64 n3,.int .u64 n4,.int .i64 n5,.int .i64 n6,.slice a n cc]) m' []→K n0 n1 n2 n3 n4 n5 n6 a n cc m':=by
 intro n0 n1 n2 n3 n4 n5 n6 a n cc m' hm hv
 have hL:(Zbh c).v=(Value.agg #[.int .u8 2,.int .u64 (ZbW c 0),.int .u64 (ZbW c 1),.int .u64 (ZbW c 2),.int .u64 (ZbW c 3),.int .i64 0,.int .i64 0,.slice none 0 0]):=rfl
 rw[Ret,hL]at hv
 simp only[Value.agg.injEq,Array.mk.injEq,List.cons.injEq,Value.int.injEq,Value.slice.injEq,true_and,and_true]at hv
 obtain⟨rfl,rfl,rfl,rfl,rfl,rfl,rfl,rfl,rfl,rfl⟩:=hv
 exact k m' hm
theorem Zul{c:Nat}{m:Mem}{K:Int→Int→Int→Int→Mem→Prop}(k:∀m',m.le m'→K (ZbW c 0) (ZbW c 1) (ZbW c 2) (ZbW c 3) m'):
  ∀(n0 n1 n2 n3:Int)(m':Mem),m.le m'→Ret (.agg #[.int .u64 (ZbW c 0),.int .u64 (ZbW c 1),.int .u64 (ZbW c 2),.int .u64 (ZbW c 3)]) (.agg #[.int .u64 n0,.int .u64 n1,.int .u64 n2,.int .u64 n3]) m' []→K n0 n1 n2 n3 m':=by
 intro n0 n1 n2 n3 m' hm hv
 simp only[Ret,Value.agg.injEq,Array.mk.injEq,List.cons.injEq,Value.int.injEq,true_and,and_true]at hv
 obtain⟨rfl,rfl,rfl,rfl⟩:=hv
 exact k m' hm
theorem Zkv{c:Nat}:∀(v:Value)(m':Mem) (css:List (List Value)),Ret (.agg #[.int .u64 (ZbW c 0),.int .u64 (ZbW c 1),.int .u64 (ZbW c 2),.int .u64 (ZbW c 3)]) v m' css→Shape.fits (.agg [.int .u64,.int .u64,.int .u64,.int .u64]) v=true:=by
 rintro v m' css rfl;rfl
theorem Zay{m M:Mem}{b:Nat}{cs:List Value}(h:(m.add b cs).le M):rowRd M (some ⟨b,0,none⟩) cs:=
 .inr ⟨b,0,rfl,fun j v hj=>h _ _ _ (by rw[Nat.zero_add,Mem.add_same];exact hj)⟩
theorem Zdl{m M:Mem}{b:Nat}{l:List T}(hM:(m.add b (Rx.Zef l)).le M)(hr:∀t∈l,Rep M t)(hl:l.length≤1000000000000000):RepL M (some ⟨b,0,none⟩) l:=
 ZtQ (Zay hM) hr hl
abbrev NfK:=Option Addr→Nat→Nat→Option Addr→Nat→Nat→Option Addr→Nat→Nat→Option Addr→Nat→Nat→Bool→Int→Mem→Prop
theorem Ztd{A:Nf}{e:Int}{m:Mem}{K:NfK}(k:∀(sa fa xa ya:Option Addr)(sc fc xc yc:Nat)(m':Mem),m.le m'→NfR true A (.agg #[.slice sa A.sets.length sc,.slice fa A.fol.length fc,.slice xa A.first.length xc,.slice ya A.last.length yc,.bool A.empty]) m'→K sa A.sets.length sc fa A.fol.length fc xa A.first.length xc ya A.last.length yc A.empty e m'):
  ∀(a:Option Addr)(n c:Nat)(a1:Option Addr)(n1 c1:Nat)(a2:Option Addr)(n2 c2:Nat)(a3:Option Addr)(n3 c3:Nat)(b:Bool)(e':Int)(m':Mem),m.le m'→NfE A e (.tuple #[.agg #[.slice a n c,.slice a1 n1 c1,.slice a2 n2 c2,.slice a3 n3 c3,.bool b],.int .i64 e']) m' []→K a n c a1 n1 c1 a2 n2 c2 a3 n3 c3 b e' m':=by
 rintro a n c a1 n1 c1 a2 n2 c2 a3 n3 c3 b e' m' hm ⟨w,hv,hR⟩
 simp only[Value.tuple.injEq,Array.mk.injEq,List.cons.injEq,Value.int.injEq,true_and,and_true]at hv
 obtain⟨rfl,rfl⟩:=hv
 have hR':=hR
 obtain⟨s,f,x,y,hv,⟨sa,sc,rfl,_⟩,⟨fa,fc,vs,rfl,_⟩,⟨xa,xc,rfl,_⟩,⟨ya,yc,rfl,_⟩⟩:=hR
 simp only[Value.agg.injEq,Array.mk.injEq,List.cons.injEq,Value.slice.injEq,Value.bool.injEq,and_true]at hv
 obtain⟨⟨rfl,rfl,rfl⟩,⟨rfl,rfl,rfl⟩,⟨rfl,rfl,rfl⟩,⟨rfl,rfl,rfl⟩,rfl⟩:=hv
 exact k _ _ _ _ _ _ _ _ m' hm hR'
theorem Zvc{l:List Int}{e:Int}{m:Mem}{K:Option Addr→Nat→Nat→Int→Mem→Prop}(k:∀(a:Option Addr)(c:Nat)(m':Mem),m.le m'→rowRd m' a (Zaq l)→l.length≤1000000→K a l.length c e m'):
  ∀(a:Option Addr)(n c:Nat)(e':Int)(m':Mem),m.le m'→ZvW l e (.tuple #[.slice a n c,.int .i64 e']) m' []→K a n c e' m':=by
 rintro a n c e' m' hm ⟨w,hv,a',c',rfl,hr,hl,_⟩
 simp only[Value.tuple.injEq,Array.mk.injEq,List.cons.injEq,Value.slice.injEq,Value.int.injEq,true_and,and_true]at hv
 obtain⟨⟨rfl,rfl,rfl⟩,rfl⟩:=hv
 exact k a c m' hm hr hl
theorem Zmm{m:Mem}{a:Option Addr}{c:Nat}{fol:List (List Int)}{vs:List Value}(h:rowRd m a vs)(hl:vs.length=fol.length)(hn:fol.length≤1000000)(hv:∀(i:Nat)(v:Value)(l:List Int),vs[i]?=some v→fol[i]?=some l→SlI false l v m):FolR false fol (.slice a fol.length c) m:=⟨a,c,vs,rfl,h,hl,hn,hv⟩
theorem ZcG{m:Mem}{a:Option Addr}{c:Nat}{l:List Int}(h:rowRd m a (Zaq l))(hl:l.length≤1000000):SlI false l (.slice a l.length c) m:=⟨a,c,rfl,h,hl,fun h=>by cases h⟩
def nfS:Nf:=⟨[q1 97,q1 98,q1 99],[[1],[0,2],[0,2]],[0,2],[1,2],true⟩
def nfF:Nf:=⟨[q1 97,q1 97,q1 97],[[1],[2],[]],[0],[1,2],false⟩
def nfM:Nf:=⟨[q1 97,q1 97],[[1],[1]],[0],[1],false⟩
def nfC:Nf:=⟨[q1 97,q1 98],[[1],[]],[0],[1],false⟩
def Zvd(a:Option Addr)(c:Nat):T:=Zff 3 0 0 a c [Zbh 97,Zbh 98]
def ZuP(a a1 a2:Option Addr)(c c1 c2:Nat):T:=Zff 5 0 (-1) a c [Zff 4 0 0 a1 c1 [Zvd a2 c2,Zbh 99]]
def Zn7(mn mx:Int)(a:Option Addr)(c:Nat):T:=Zff 5 mn mx a c [Zbh 97]
theorem Zsc(a a1 a2:Option Addr)(c c1 c2:Nat):(ZuP a a1 a2 c c1 c2).ofN=nfS∧(ZuP a a1 a2 c c1 c2).ofE=0:=⟨by kernel_rfl,by kernel_rfl⟩
theorem Zum(a:Option Addr)(c:Nat):(Zn7 2 3 a c).ofN=nfF∧(Zn7 2 3 a c).ofE=0:=⟨by kernel_rfl,by kernel_rfl⟩
theorem Zsd(a:Option Addr)(c:Nat):(Zn7 2 (-1) a c).ofN=nfM∧(Zn7 2 (-1) a c).ofE=0:=⟨by kernel_rfl,by kernel_rfl⟩
theorem Zun(a:Option Addr)(c:Nat):(Zvd a c).ofN=nfC∧(Zvd a c).ofE=0:=⟨by kernel_rfl,by kernel_rfl⟩
theorem ZfX:nfS.err [-1]=0∧nfS.step [-1] 97=[0]∧nfS.step [-1] 98=[]:=⟨by kernel_rfl,by kernel_rfl,by kernel_rfl⟩
theorem Zif:nfC.right=true∧nfC.search [97,98,97,98]=[2,4]∧nfC.turn.right=true∧nfC.turn.matches [98,97]=true:=⟨by kernel_rfl,by kernel_rfl,by kernel_rfl,by kernel_rfl⟩
theorem ZvA{c:Nat}(h:c < 256):QOk (q1 c):=⟨Zd3 c 0,Zd3 c 1,Zd3 c 2,Zd3 c 3⟩
end Go.Proofs.Ytplacemlpkhmfaa

