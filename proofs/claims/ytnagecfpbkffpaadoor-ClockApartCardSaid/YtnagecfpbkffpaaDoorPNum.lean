import Derived.Test.YtnagecfpbkffpaaDoorQNum
import Derived.Test.YtnagecfpbkffpaaDoorPBase
import Derived.Test.YtnagecfpbkffpaaDoorPDigits
import Derived.Test.YtnagecfpbkffpaaDoorPx2
import Derived.Test.YtnagecfpbkffpaaDoorPx15
import Derived.Test.YtnagecfpbkffpaaDoorPx14
namespace Go.Proofs.YtnagecfpbkffpaaDoor.P
open Go.RowKit Go.Proofs.YtnagecfpbkffpaaDoorW.PrintWords
set_option linter.unusedVariables false
set_option linter.unusedSimpArgs false
def decB (n : Nat) : ByteArray := strOfNums (Q.dec n)
theorem digs_eq (k : Nat) : ∀ n, digs k n = Q.dg k n := by
  induction k with
  | zero => intro n; rfl
  | succ k ih => intro n; rw [digs, Q.dg, ih]
theorem u64_in2 {x : Int} (h0 : 0 ≤ x) (h1 : x ≤ 18446744073709551615) : IntKind.u64.wrap x = x := IntWalk.u64_in _ ⟨h0, h1⟩
theorem print_eq (a : Int) (h0 : 0 ≤ a) (h1 : a ≤ 9223372036854775807) : digits_Print.f a = some (decB a.toNat) := by
  unfold digits_Print.f digits_Word.f
  rw [if_neg (by omega), u64_in2 h0 (by omega), if_pos ⟨h0, by omega⟩, digs_eq]
  rfl
theorem decB_size (n : Nat) : (decB n).size ≤ 20 := by unfold decB; rw [strOfNums_size]; exact Q.dec_length n
end Go.Proofs.YtnagecfpbkffpaaDoor.P
