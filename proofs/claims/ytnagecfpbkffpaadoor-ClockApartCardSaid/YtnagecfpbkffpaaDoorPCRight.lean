import Derived.Test.YtnagecfpbkffpaaDoorPNum
import Derived.Test.YtnagecfpbkffpaaDoorQWeeks
import Derived.Test.YtnagecfpbkffpaaDoorPx4
import Derived.Test.YtnagecfpbkffpaaDoorPx13
namespace Go.Proofs.YtnagecfpbkffpaaDoor.P
open Go.RowKit Go.Proofs.YtnagecfpbkffpaaDoorW.PrintWords
set_option linter.unusedVariables false
set_option linter.unusedSimpArgs false
def gridB (a b c : Int) : Bool := decide (1 ≤ a ∧ a ≤ 20 ∧ 1 ≤ b ∧ b ≤ 7 ∧ 1 ≤ c ∧ c ≤ 96)
def rightB (a b c w d s l : Int) : Bool := gridB a b c && decide (0 ≤ s ∧ 1 ≤ l ∧ s + l ≤ c ∧ w ≠ 0 ∧ w < 2 ^ a.toNat ∧ d ≠ 0 ∧ d < 2 ^ b.toNat)
theorem within_eq (x a b : Int) : when_within.f x a b = some (decide (a ≤ x ∧ x ≤ b)) := by
  unfold when_within.f
  by_cases h : a ≤ x
  · rw [if_pos h]
    by_cases h2 : x ≤ b
    · rw [decide_eq_true h2, decide_eq_true ⟨h, h2⟩]
    · rw [decide_eq_false h2, decide_eq_false (fun h3 => h2 h3.2)]
  · rw [if_neg h, decide_eq_false (fun h3 => h h3.1)]
theorem grid_eq (a b c : Int) : when_RightGrid.f a b c = some (gridB a b c) := by
  unfold when_RightGrid.f gridB
  rw [within_eq, within_eq, within_eq]
  simp only [Option.bind_some]
  by_cases h1 : 1 ≤ a ∧ a ≤ 20
  · rw [decide_eq_true h1, if_pos rfl]
    by_cases h2 : 1 ≤ b ∧ b ≤ 7
    · rw [decide_eq_true h2, if_pos rfl]
      congr 1
      apply decide_eq_decide.2
      omega
    · rw [decide_eq_false h2, if_neg (by decide), decide_eq_false (by omega)]
  · rw [decide_eq_false h1, if_neg (by decide), decide_eq_false (by omega)]
theorem div_zero_iff (w a : Nat) : w / 2 ^ a = 0 ↔ w < 2 ^ a := by
  have hp : 0 < 2 ^ a := Nat.pow_pos (by decide)
  constructor
  · intro h
    have := Nat.div_eq_zero_iff.1 h
    omega
  · intro h; exact Nat.div_eq_of_lt h
theorem pow_cast (a : Nat) : ((2 : Int) ^ a) = ((2 ^ a : Nat) : Int) := by norm_cast
theorem right_eq (a b c w d s l : Int) (hw0 : 0 ≤ w) (hw1 : w ≤ 4294967295) (hd0 : 0 ≤ d) (hd1 : d ≤ 255) : when_Right.f a b c w d s l = some (rightB a b c w d s l) := by
  unfold when_Right.f rightB when_tame.f
  rw [grid_eq, within_eq, within_eq]
  simp only [Option.bind_some]
  by_cases hg : gridB a b c = true
  · rw [hg, if_pos rfl, Bool.true_and]
    have hg2 := hg
    simp only [gridB, decide_eq_true_eq] at hg2
    by_cases h1 : 0 ≤ s ∧ s ≤ 96
    · rw [decide_eq_true h1, if_pos rfl]
      simp only [Option.bind_some]
      by_cases h2 : 1 ≤ l ∧ l ≤ 96
      · rw [decide_eq_true h2, if_pos rfl, w64_in (by omega) (by omega)]
        by_cases h3 : s + l > c
        · rw [if_pos h3, decide_eq_false (by omega)]
        · rw [if_neg h3]
          by_cases h4 : w = 0
          · rw [if_pos h4, decide_eq_false (by omega)]
          · rw [if_neg h4, if_pos (by omega)]
            have e1 : shr .u32 w a = ((w.toNat / 2 ^ a.toNat : Nat) : Int) := by
              unfold shr
              rw [show min a.toNat IntKind.u32.bits = a.toNat by show min a.toNat 32 = a.toNat; omega, pow_cast, Int.natCast_ediv, show ((w.toNat : Nat) : Int) = w by omega]
            have e2 : shr .i64 (wrap64 d) b = ((d.toNat / 2 ^ b.toNat : Nat) : Int) := by
              unfold shr
              rw [w64_in (by omega) (by omega), show min b.toNat IntKind.i64.bits = b.toNat by show min b.toNat 64 = b.toNat; omega, pow_cast, Int.natCast_ediv, show ((d.toNat : Nat) : Int) = d by omega]
            have i1 := div_zero_iff w.toNat a.toNat
            have i2 := div_zero_iff d.toNat b.toNat
            rw [e1, e2, pow_cast, pow_cast]
            generalize w.toNat / 2 ^ a.toNat = x at *
            generalize d.toNat / 2 ^ b.toNat = y at *
            generalize (2 : Nat) ^ a.toNat = u at *
            generalize (2 : Nat) ^ b.toNat = v at *
            by_cases h5 : (x : Int) = 0
            · rw [if_pos h5]
              by_cases h6 : d = 0
              · rw [if_pos h6, decide_eq_false (by omega)]
              · rw [if_neg h6, if_pos (by omega)]
                by_cases h7 : y = 0
                · rw [show ((y : Int) == 0) = true by simp [h7], decide_eq_true (by omega)]
                · rw [show ((y : Int) == 0) = false by simp [h7], decide_eq_false (by omega)]
            · rw [if_neg h5, decide_eq_false (by omega)]
      · rw [decide_eq_false h2, if_neg (by decide), decide_eq_false (by omega)]
    · rw [decide_eq_false h1, if_neg (by decide)]
      simp only [Option.bind_some]
      rw [if_neg (by decide), decide_eq_false (by omega)]
  · have hf : gridB a b c = false := by simpa using hg
    rw [hf, if_neg (by decide), Bool.false_and]
end Go.Proofs.YtnagecfpbkffpaaDoor.P
