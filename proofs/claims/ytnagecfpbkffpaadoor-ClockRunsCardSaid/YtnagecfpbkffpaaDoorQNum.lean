import Derived.Test.YtnagecfpbkffpaaDoorQLine
namespace Go.Proofs.YtnagecfpbkffpaaDoor.Q
set_option linter.unusedVariables false
set_option linter.unusedSimpArgs false
def dg : Nat → Nat → List Int
  | 0, _ => []
  | k + 1, n => if n < 10 then [48 + (n : Int)] else dg k (n / 10) ++ [48 + ((n % 10 : Nat) : Int)]
def dec (n : Nat) : List Int := dg 20 n
def digitI (c : Int) : Bool := decide (48 ≤ c ∧ c ≤ 57)
def valA : Nat → List Int → Nat
  | a, [] => a
  | a, c :: l => valA (10 * a + (c - 48).toNat) l
def shapedN (s : List Int) : Bool := s.all digitI && (decide (s.length = 1) || (decide (s.length > 1) && decide (s.getD 0 0 ≠ 48)))
def pwN (s : List Int) : Int × Int := if shapedN s then (if valA 0 s < 18446744073709551616 then ((valA 0 s : Nat), 0) else (0, 6)) else (0, 3)
theorem valA_add (l : List Int) : ∀ a, valA a l = a * 10 ^ l.length + valA 0 l := by
  induction l with
  | nil => intro a; simp [valA]
  | cons c l ih =>
    intro a
    rw [valA, ih, valA, ih (10 * 0 + (c - 48).toNat), List.length_cons, Nat.pow_succ]
    have : (10 * a + (c - 48).toNat) * 10 ^ l.length = a * (10 ^ l.length * 10) + (c - 48).toNat * 10 ^ l.length := by
      rw [Nat.add_mul, Nat.mul_comm (10 ^ l.length) 10, ← Nat.mul_assoc, Nat.mul_comm a 10]
    rw [this]
    simp only [Nat.mul_zero, Nat.zero_add]
    omega
theorem valA_lt (l : List Int) (h : l.all digitI = true) : valA 0 l < 10 ^ l.length := by
  induction l with
  | nil => simp [valA]
  | cons c l ih =>
    simp only [List.all_cons, Bool.and_eq_true, digitI, decide_eq_true_eq] at h
    have h2 := ih h.2
    rw [valA, valA_add, List.length_cons, Nat.pow_succ]
    have : (10 * 0 + (c - 48).toNat) ≤ 9 := by omega
    have := Nat.mul_le_mul_right (10 ^ l.length) this
    omega
theorem valA_ge (c : Int) (l : List Int) (h1 : 48 < c) (h2 : c ≤ 57) : 10 ^ l.length ≤ valA 0 (c :: l) := by
  rw [valA, valA_add]
  have : 1 ≤ (10 * 0 + (c - 48).toNat) := by omega
  have := Nat.mul_le_mul_right (10 ^ l.length) this
  omega
theorem valA_mono (l : List Int) (a : Nat) : a ≤ valA a l := by
  rw [valA_add]
  have : 1 ≤ 10 ^ l.length := Nat.one_le_pow _ _ (by decide)
  have := Nat.mul_le_mul_left a this
  omega
theorem valA_append (l m : List Int) : ∀ a, valA a (l ++ m) = valA (valA a l) m := by
  induction l with
  | nil => intro a; rfl
  | cons c l ih => intro a; exact ih _
theorem dg_step (m k : Nat) (h : ¬ m < 10) : dg (k + 1) m = dg k (m / 10) ++ [48 + ((m % 10 : Nat) : Int)] := by rw [dg, if_neg h]
theorem dg_val (k : Nat) : ∀ n, n < 10 ^ k → valA 0 (dg k n) = n := by
  induction k with
  | zero => intro n h; simp at h; subst h; rfl
  | succ k ih =>
    intro n h
    by_cases hn : n < 10
    · rw [dg, if_pos hn]
      simp only [valA]
      omega
    · rw [dg_step n k hn, valA_append, ih (n / 10) (by rw [Nat.pow_succ] at h; omega)]
      simp only [valA]
      omega
theorem dg_digits (k : Nat) : ∀ n, (dg k n).all digitI = true := by
  induction k with
  | zero => intro n; rfl
  | succ k ih =>
    intro n
    rw [dg]
    split
    · simp only [List.all_cons, List.all_nil, Bool.and_true, digitI, decide_eq_true_eq]; omega
    · rw [List.all_append, ih]
      simp only [List.all_cons, List.all_nil, Bool.and_true, Bool.true_and, digitI, decide_eq_true_eq]; omega
theorem dg_length (k : Nat) : ∀ n, (dg k n).length ≤ k := by
  induction k with
  | zero => intro n; exact Nat.le_refl _
  | succ k ih =>
    intro n
    rw [dg]
    split
    · simp
    · have := ih (n / 10)
      simp only [List.length_append, List.length_cons, List.length_nil]
      omega
theorem dg_of (k : Nat) : ∀ (l : List Int), l.length ≤ k → l.all digitI = true → (l.length = 1 ∨ l.length > 1 ∧ l.getD 0 0 ≠ 48) → dg k (valA 0 l) = l := by
  induction k with
  | zero => intro l h1 h2 h3; omega
  | succ k ih =>
    intro l h1 h2 h3
    rcases h3 with h3 | ⟨h3, h4⟩
    · obtain ⟨c, rfl⟩ := List.length_eq_one_iff.1 h3
      simp only [List.all_cons, List.all_nil, Bool.and_true, digitI, decide_eq_true_eq] at h2
      have e : (48 : Int) + ((valA 0 [c] : Nat) : Int) = c := by simp only [valA]; omega
      rw [dg, if_pos (by simp only [valA]; omega), e]
    · obtain ⟨m, c, rfl⟩ : ∃ m c, l = m ++ [c] := ⟨l.dropLast, l.getLast (by intro e; subst e; simp at h3), (List.dropLast_concat_getLast _).symm⟩
      simp only [List.length_append, List.length_cons, List.length_nil] at h1 h3
      rw [List.all_append, Bool.and_eq_true] at h2
      obtain ⟨h5, h6⟩ := h2
      simp only [List.all_cons, List.all_nil, Bool.and_true, digitI, decide_eq_true_eq] at h6
      cases m with
      | nil => simp at h3
      | cons x m =>
        simp only [List.cons_append, List.getD_cons_zero] at h4
        have h7 := h5
        simp only [List.all_cons, Bool.and_eq_true, digitI, decide_eq_true_eq] at h7
        have hge := valA_ge x m (by omega) h7.1.2
        have hp1 : 1 ≤ 10 ^ m.length := Nat.one_le_pow _ _ (by decide)
        rw [valA_append]
        simp only [valA]
        have hge2 : 1 ≤ valA (10 * 0 + (x - 48).toNat) m := by
          have : valA 0 (x :: m) = valA (10 * 0 + (x - 48).toNat) m := rfl
          omega
        rw [dg_step _ k (by omega)]
        have e1 : (10 * valA (10 * 0 + (x - 48).toNat) m + (c - 48).toNat) / 10 = valA 0 (x :: m) := by
          show _ = valA (10 * 0 + (x - 48).toNat) m
          omega
        have e2 : 48 + (((10 * valA (10 * 0 + (x - 48).toNat) m + (c - 48).toNat) % 10 : Nat) : Int) = c := by omega
        rw [e1, e2, ih (x :: m) (by simp only [List.length_cons] at h1 ⊢; omega) h5 (by
          rcases Nat.lt_or_ge (x :: m).length 2 with h | h
          · left; simp only [List.length_cons] at h ⊢; omega
          · right; exact ⟨by omega, h4⟩)]
theorem shaped_of (l : List Int) (h : shapedN l = true) : l.all digitI = true ∧ (l.length = 1 ∨ l.length > 1 ∧ l.getD 0 0 ≠ 48) := by
  unfold shapedN at h
  simp only [Bool.and_eq_true, Bool.or_eq_true, decide_eq_true_eq] at h
  exact h
theorem shaped_long (l : List Int) (h : shapedN l = true) (h2 : 20 < l.length) : 18446744073709551616 ≤ valA 0 l := by
  obtain ⟨h3, h4⟩ := shaped_of l h
  rcases h4 with h4 | ⟨_, h4⟩
  · omega
  · cases l with
    | nil => simp at h2
    | cons c l =>
      simp only [List.all_cons, Bool.and_eq_true, digitI, decide_eq_true_eq] at h3
      have h5 := valA_ge c l (by simp only [List.getD_cons_zero] at h4; omega) h3.1.2
      have h6 : 10 ^ 20 ≤ 10 ^ l.length := Nat.pow_le_pow_right (by decide) (by simp only [List.length_cons] at h2; omega)
      omega
theorem pw_of (l : List Int) (n : Int) (h : pwN l = (n, 0)) : 0 ≤ n ∧ n < 18446744073709551616 ∧ l = dec n.toNat := by
  unfold pwN at h
  by_cases hs : shapedN l = true
  · rw [if_pos hs] at h
    by_cases hv : valA 0 l < 18446744073709551616
    · rw [if_pos hv] at h
      have hn : n = (valA 0 l : Nat) := by simpa using h.symm
      have hl : l.length ≤ 20 := by
        rcases Nat.lt_or_ge 20 l.length with h2 | h2
        · have := shaped_long l hs h2; omega
        · exact h2
      obtain ⟨h3, h4⟩ := shaped_of l hs
      refine ⟨by omega, by omega, ?_⟩
      rw [hn, Int.toNat_natCast]
      exact (dg_of 20 l hl h3 h4).symm
    · rw [if_neg hv] at h
      simp at h
  · rw [if_neg hs] at h
    simp at h
theorem dec_digit (n : Nat) (c : Int) (h : c ∈ dec n) : 48 ≤ c ∧ c ≤ 57 := by
  have h := List.all_eq_true.1 (dg_digits 20 n) c h
  simpa only [digitI, decide_eq_true_eq] using h
theorem dec_length (n : Nat) : (dec n).length ≤ 20 := dg_length 20 n
end Go.Proofs.YtnagecfpbkffpaaDoor.Q
