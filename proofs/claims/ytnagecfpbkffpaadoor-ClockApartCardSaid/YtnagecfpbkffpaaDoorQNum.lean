import Derived.Test.YtnagecfpbkffpaaDoorQLine
namespace Go.Proofs.YtnagecfpbkffpaaDoor.Q
set_option linter.unusedVariables false
set_option linter.unusedSimpArgs false
def dg : Nat → Nat → List Int
  | 0, _ => []
  | k + 1, n => if n < 10 then [48 + (n : Int)] else dg k (n / 10) ++ [48 + ((n % 10 : Nat) : Int)]
def dec (n : Nat) : List Int := dg 20 n
def digitI (c : Int) : Bool := decide (48 ≤ c ∧ c ≤ 57)
def valA : Nat → List Int → Nat
  | a, [] => a
  | a, c :: l => valA (10 * a + (c - 48).toNat) l
def shapedN (s : List Int) : Bool := s.all digitI && (decide (s.length = 1) || (decide (s.length > 1) && decide (s.getD 0 0 ≠ 48)))
def pwN (s : List Int) : Int × Int := if shapedN s then (if valA 0 s < 18446744073709551616 then ((valA 0 s : Nat), 0) else (0, 6)) else (0, 3)
theorem dg_digits (k : Nat) : ∀ n, (dg k n).all digitI = true := by
  induction k with
  | zero => intro n; rfl
  | succ k ih =>
    intro n
    rw [dg]
    split
    · simp only [List.all_cons, List.all_nil, Bool.and_true, digitI, decide_eq_true_eq]; omega
    · rw [List.all_append, ih]
      simp only [List.all_cons, List.all_nil, Bool.and_true, Bool.true_and, digitI, decide_eq_true_eq]; omega
theorem dg_length (k : Nat) : ∀ n, (dg k n).length ≤ k := by
  induction k with
  | zero => intro n; exact Nat.le_refl _
  | succ k ih =>
    intro n
    rw [dg]
    split
    · simp
    · have := ih (n / 10)
      simp only [List.length_append, List.length_cons, List.length_nil]
      omega
theorem dec_digit (n : Nat) (c : Int) (h : c ∈ dec n) : 48 ≤ c ∧ c ≤ 57 := by
  have h := List.all_eq_true.1 (dg_digits 20 n) c h
  simpa only [digitI, decide_eq_true_eq] using h
theorem dec_length (n : Nat) : (dec n).length ≤ 20 := dg_length 20 n
end Go.Proofs.YtnagecfpbkffpaaDoor.Q
