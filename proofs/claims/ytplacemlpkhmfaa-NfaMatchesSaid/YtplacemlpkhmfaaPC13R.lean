/- Part of the proof: conditions and contracts of functions of this program. No condition of its own. -/
import Derived.Test.YtplacemlpkhmfaaPC13Q
import Derived.Test.YtplacemlpkhmfaaMr
set_option linter.unusedVariables false
set_option linter.unusedSimpArgs false
namespace Go.Proofs.Ytplacemlpkhmfaa
open Go Go.Eng Go.Proofs Go.RowKit Go.Rx
theorem ZwX(a b c d e f g h i a' b' c' d' e' f' g' h' i':Int):EqIs Try.prog 127 (.agg #[.int .u64 a,.int .u64 b,.int .u64 c,.int .u64 d,.int .u64 e,.int .u64 f,.int .u64 g,.int .u64 h,.int .u64 i]) (.agg #[.int .u64 a',.int .u64 b',.int .u64 c',.int .u64 d',.int .u64 e',.int .u64 f',.int .u64 g',.int .u64 h',.int .u64 i']) (a == a'&&(b == b'&&(c == c'&&(d == d'&&(e == e'&&(f == f'&&(g == g'&&(h == h'&&i == i')))))))):=by
 refine⟨fun w=>?_,fun op ox oy w=>ZiU (by kernel_rfl) op ox oy _ _ w⟩
 have u3:=Try.underlying36
 have a3:=Try.isAgg36
 have z3:=Try.sizeOf36
 rw[Op.equal,Op.maxDepth,show(10000:Nat)=9999+1 from rfl,Op.equalIn]
 simp only[Sem.run_bind,run_underlying Try.underlying127,Result.andThen_ok]
 simp only[Std.Legacy.Range.forIn_eq_forIn_range',Std.Legacy.Range.size,Nat.sub_zero,Nat.add_sub_cancel,Nat.div_one,List.range'_succ,List.range'_zero,List.forIn_cons,List.forIn_nil]
 go_simp
 by_cases h1:a=a'
 ·by_cases h2:b=b'
  ·by_cases h3:c=c'
   ·by_cases h4:d=d'
    ·by_cases h5:e=e'
     ·by_cases h6:f=f'
      ·by_cases h7:g=g'
       ·by_cases h8:h=h'
        ·by_cases h9:i=i' <;> simp[h1,h2,h3,h4,h5,h6,h7,h8,h9]
        ·simp[h1,h2,h3,h4,h5,h6,h7,h8]
       ·simp[h1,h2,h3,h4,h5,h6,h7]
      ·simp[h1,h2,h3,h4,h5,h6]
     ·simp[h1,h2,h3,h4,h5]
    ·simp[h1,h2,h3,h4]
   ·simp[h1,h2,h3]
  ·simp[h1,h2]
 ·simp[h1]
theorem ZyR{f g:Nat}(hf:f < Zcl)(hg:g < Zcl):EqIs Try.prog 127 (plV f) (plV g) (f == g):=by
 have h:=ZwX (wdN f 0:Nat) (wdN f 1:Nat) (wdN f 2:Nat) (wdN f 3:Nat) (wdN f 4:Nat) (wdN f 5:Nat) (wdN f 6:Nat) (wdN f 7:Nat) (wdN f 8:Nat) (wdN g 0:Nat) (wdN g 1:Nat) (wdN g 2:Nat) (wdN g 3:Nat) (wdN g 4:Nat) (wdN g 5:Nat) (wdN g 6:Nat) (wdN g 7:Nat) (wdN g 8:Nat)
 have e:(((wdN f 0:Nat):Int) == (wdN g 0:Nat)&&(((wdN f 1:Nat):Int) == (wdN g 1:Nat)&&(((wdN f 2:Nat):Int) == (wdN g 2:Nat)&&(((wdN f 3:Nat):Int) == (wdN g 3:Nat)&&(((wdN f 4:Nat):Int) == (wdN g 4:Nat)&&(((wdN f 5:Nat):Int) == (wdN g 5:Nat)&&(((wdN f 6:Nat):Int) == (wdN g 6:Nat)&&(((wdN f 7:Nat):Int) == (wdN g 7:Nat)&&((wdN f 8:Nat):Int) == (wdN g 8:Nat)))))))))=(f == g):=by
  rw[Bool.eq_iff_iff]
  simp only[Bool.and_eq_true,beq_iff_eq,Int.natCast_inj]
  constructor
  ·rintro⟨h0,h1,h2,h3,h4,h5,h6,h7,h8⟩
   refine ZxT hf hg fun j hj=>?_
   have:j=0∨j=1∨j=2∨j=3∨j=4∨j=5∨j=6∨j=7∨j=8:=by omega
   rcases this with rfl|rfl|rfl|rfl|rfl|rfl|rfl|rfl|rfl
   ·exact h0
   ·exact h1
   ·exact h2
   ·exact h3
   ·exact h4
   ·exact h5
   ·exact h6
   ·exact h7
   ·exact h8
  ·rintro rfl;simp
 rw[e]at h
 exact h
end Go.Proofs.Ytplacemlpkhmfaa

