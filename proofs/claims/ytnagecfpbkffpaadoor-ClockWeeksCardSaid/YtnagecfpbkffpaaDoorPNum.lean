import Derived.Test.YtnagecfpbkffpaaDoorQNum
import Derived.Test.YtnagecfpbkffpaaDoorPBase
import Derived.Test.YtnagecfpbkffpaaDoorPDigits
import Derived.Test.YtnagecfpbkffpaaDoorPx2
import Derived.Test.YtnagecfpbkffpaaDoorPx15
import Derived.Test.YtnagecfpbkffpaaDoorPx14
namespace Go.Proofs.YtnagecfpbkffpaaDoor.P
open Go.RowKit Go.Proofs.YtnagecfpbkffpaaDoorW.PrintWords
set_option linter.unusedVariables false
set_option linter.unusedSimpArgs false
def decB (n : Nat) : ByteArray := strOfNums (Q.dec n)
theorem digs_eq (k : Nat) : ∀ n, digs k n = Q.dg k n := by
  induction k with
  | zero => intro n; rfl
  | succ k ih => intro n; rw [digs, Q.dg, ih]
theorem u64_in2 {x : Int} (h0 : 0 ≤ x) (h1 : x ≤ 18446744073709551615) : IntKind.u64.wrap x = x := IntWalk.u64_in _ ⟨h0, h1⟩
theorem print_eq (a : Int) (h0 : 0 ≤ a) (h1 : a ≤ 9223372036854775807) : digits_Print.f a = some (decB a.toNat) := by
  unfold digits_Print.f digits_Word.f
  rw [if_neg (by omega), u64_in2 h0 (by omega), if_pos ⟨h0, by omega⟩, digs_eq]
  rfl
theorem refdigit_eq (x : Int) (h0 : 0 ≤ x) (h1 : x ≤ 18446744073709551615) : horariumref01_digit.f x = some (strOfNums [48 + ((x.toNat % 10 : Nat) : Int)]) := by
  unfold horariumref01_digit.f
  have e : Int.tmod x 10 = ((x.toNat % 10 : Nat) : Int) := by
    rw [Int.tmod_eq_emod_of_nonneg h0]
    omega
  rw [e, u64_in2 (by omega) (by omega), Int.emod_eq_of_lt (by omega) (by omega)]
theorem refword_loop (k : Nat) : ∀ (x : Nat) (l : List Int), x < 10 ^ k → 0 < k → x ≤ 18446744073709551615 → l.length + k ≤ 100 →
    Ev (fun n => horariumref01_Word.l0 n (x : Int) (strOfNums ([48 + ((x % 10 : Nat) : Int)] ++ l))) (strOfNums (Q.dg k x ++ l)) := by
  induction k with
  | zero => intro x l h h0; omega
  | succ k ih =>
    intro x l h h0 h1 hl
    refine Ev.step (fun n => horariumref01_Word.l0.eq_2 ..) ?_
    by_cases hx : x < 10
    · refine Ev.ifn (by omega) (Ev.eq (Ev.now _) ?_)
      rw [Q.dg, if_pos hx, show x % 10 = x by omega]
    · have e : Int.tdiv (x : Int) 10 = ((x / 10 : Nat) : Int) := rfl
      have e2 : IntKind.u64.wrap ((x / 10 : Nat) : Int) = ((x / 10 : Nat) : Int) := u64_in2 (by omega) (by omega)
      refine Ev.ifp (by omega) ?_
      rw [e, e2]
      refine Ev.call (Ev.const (refdigit_eq _ (by omega) (by omega))) ?_
      rw [Int.toNat_natCast]
      refine Ev.ifp (by rw [strOfNums_size, strOfNums_size]; simp only [List.length_append, List.length_cons, List.length_nil]; omega) ?_
      rw [str_append]
      have h3 := ih (x / 10) ([48 + ((x % 10 : Nat) : Int)] ++ l) (by rw [Nat.pow_succ] at h; omega) (by
        rcases Nat.eq_zero_or_pos k with h4 | h4
        · subst h4; simp at h; omega
        · exact h4) (by omega) (by simp only [List.length_append, List.length_cons, List.length_nil]; omega)
      refine Ev.eq h3 ?_
      rw [Q.dg_step x k hx, List.append_assoc]
theorem refword_ev (x : Int) (h0 : 0 ≤ x) (h1 : x ≤ 18446744073709551615) : Ev (fun k => horariumref01_Word.f k x) (decB x.toNat) := by
  unfold horariumref01_Word.f
  refine Ev.call (Ev.const (refdigit_eq x h0 h1)) ?_
  have h := refword_loop 20 x.toNat [] (by omega) (by decide) (by omega) (by simp)
  rw [List.append_nil, List.append_nil, show ((x.toNat : Nat) : Int) = x by omega] at h
  exact h
theorem refprint_ev (a : Int) (h0 : 0 ≤ a) (h1 : a ≤ 9223372036854775807) : Ev (fun k => horariumref01_Print.f k a) (decB a.toNat) := by
  unfold horariumref01_Print.f
  refine Ev.ifn (by omega) ?_
  refine Ev.call (Ev.const (show horariumref01_Size.f a = some a by unfold horariumref01_Size.f; rw [if_neg (by omega), u64_in2 h0 (by omega)])) ?_
  exact Ev.call (refword_ev a h0 (by omega)) (Ev.now _)
theorem decB_size (n : Nat) : (decB n).size ≤ 20 := by unfold decB; rw [strOfNums_size]; exact Q.dec_length n
end Go.Proofs.YtnagecfpbkffpaaDoor.P
