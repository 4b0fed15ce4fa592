import Derived.Test.YtnagecfpbkffpaaDoorPDays
import Derived.Test.YtnagecfpbkffpaaDoorPx4
import Derived.Test.YtnagecfpbkffpaaDoorPx8
import Derived.Test.YtnagecfpbkffpaaDoorPx9
namespace Go.Proofs.YtnagecfpbkffpaaDoor.P
open Go.RowKit Go.Proofs.YtnagecfpbkffpaaDoorW.PrintWords Go.Proofs.YtnagecfpbkffpaaDoorW.PrintLast Go.Proofs.YtnagecfpbkffpaaDoorW.PrintMore
attribute [local go_sem] max2_int min2_int max_two min_two max_three min_three max_four min_four   -- for this text's walks alone
set_option linter.unusedVariables false
set_option linter.unusedSimpArgs false
attribute [local go_sem high] eqA26
def clock_Moment.f (a0_0 : Int) (a0_1 : Int) (a0_2 : Int) (a1 : Int) : Option (ByteArray) := (when_Of.f a0_0 a0_1 a0_2 a1).bind fun bt201 => (if bt201.2.2.2 = true then ((digits_Print.f (wrap64 (bt201.1 + 1))).bind fun t205 => (if t205.size + 1 ≤ 9223372036854775807 then (if 0 ≤ bt201.2.1 then (if bt201.2.1 ≤ (wrap64 (bt201.2.1 + 1)) then (if (wrap64 (bt201.2.1 + 1)) ≤ 7 then (if (t205 ++ (⟨#[32]⟩ : ByteArray)).size + ((⟨#[109, 116, 119, 104, 102, 115, 117]⟩ : ByteArray).extract (bt201.2.1 : Int).toNat ((wrap64 (bt201.2.1 + 1)) : Int).toNat).size ≤ 9223372036854775807 then (if ((t205 ++ (⟨#[32]⟩ : ByteArray)) ++ ((⟨#[109, 116, 119, 104, 102, 115, 117]⟩ : ByteArray).extract (bt201.2.1 : Int).toNat ((wrap64 (bt201.2.1 + 1)) : Int).toNat)).size + 1 ≤ 9223372036854775807 then ((digits_Print.f bt201.2.2.1).bind fun t206 => (if (((t205 ++ (⟨#[32]⟩ : ByteArray)) ++ ((⟨#[109, 116, 119, 104, 102, 115, 117]⟩ : ByteArray).extract (bt201.2.1 : Int).toNat ((wrap64 (bt201.2.1 + 1)) : Int).toNat)) ++ (⟨#[32]⟩ : ByteArray)).size + t206.size ≤ 9223372036854775807 then (some ((((t205 ++ (⟨#[32]⟩ : ByteArray)) ++ ((⟨#[109, 116, 119, 104, 102, 115, 117]⟩ : ByteArray).extract (bt201.2.1 : Int).toNat ((wrap64 (bt201.2.1 + 1)) : Int).toNat)) ++ (⟨#[32]⟩ : ByteArray)) ++ t206)) else (none))) else (none)) else (none)) else (none)) else (none)) else (none)) else (none))) else (some (⟨#[]⟩ : ByteArray)))
def clock_Moment.T4 : Bool × List (List Nat × List Nat) := (true, [([], []), ([0], [0]), ([1], [1]), ([2], [2]), ([], []), ([], []), ([5], [5]), ([4, 6], [4, 6]), ([3, 7], [3, 7]), ([8], [8]), ([], []), ([10, 2], [10]), ([9, 11], [9, 11]), ([12, 11, 0, 1, 2, 3, 4, 5, 6, 7, 8, 9, 10, 11, 12], [12])])
def clock_Moment.B4 : List Nat := [0, 1, 3, 7, 0, 0, 32, 112, 255, 511, 0, 1031, 4095, 8191]
theorem clock_Moment.tab4 : rtab .any (opsOf Tryd.f14 4) = clock_Moment.T4 := by kernel_rfl
theorem clock_Moment.bits4 : waitsOk clock_Moment.T4.2 clock_Moment.B4 = true := by kernel_rfl
set_option maxHeartbeats 8000000 in
set_option maxRecDepth 100000 in
theorem clock_Moment.calls (a0_0 : Int) (a0_1 : Int) (a0_2 : Int) (a1 : Int) (r : ByteArray) (w : World) (h : clock_Moment.f a0_0 a0_1 a0_2 a1 = some r) :
    Calls Tryd.prog 14 #[.agg #[.int .i64 a0_0, .int .i64 a0_1, .int .i64 a0_2], .int .i64 a1] w fun e w' => e = .returned (.string r) ∧ Below w.heap.size w w' := by
  have hu23 := Tryd.underlying23
  have HB := Aside0.mk (Below.refl w.heap.size w)
  have H : ((when_Of.f a0_0 a0_1 a0_2 a1).bind fun bt201 => (if bt201.2.2.2 = true then ((digits_Print.f (wrap64 (bt201.1 + 1))).bind fun t205 => (if t205.size + 1 ≤ 9223372036854775807 then (if 0 ≤ bt201.2.1 then (if bt201.2.1 ≤ (wrap64 (bt201.2.1 + 1)) then (if (wrap64 (bt201.2.1 + 1)) ≤ 7 then (if (t205 ++ (⟨#[32]⟩ : ByteArray)).size + ((⟨#[109, 116, 119, 104, 102, 115, 117]⟩ : ByteArray).extract (bt201.2.1 : Int).toNat ((wrap64 (bt201.2.1 + 1)) : Int).toNat).size ≤ 9223372036854775807 then (if ((t205 ++ (⟨#[32]⟩ : ByteArray)) ++ ((⟨#[109, 116, 119, 104, 102, 115, 117]⟩ : ByteArray).extract (bt201.2.1 : Int).toNat ((wrap64 (bt201.2.1 + 1)) : Int).toNat)).size + 1 ≤ 9223372036854775807 then ((digits_Print.f bt201.2.2.1).bind fun t206 => (if (((t205 ++ (⟨#[32]⟩ : ByteArray)) ++ ((⟨#[109, 116, 119, 104, 102, 115, 117]⟩ : ByteArray).extract (bt201.2.1 : Int).toNat ((wrap64 (bt201.2.1 + 1)) : Int).toNat)) ++ (⟨#[32]⟩ : ByteArray)).size + t206.size ≤ 9223372036854775807 then (some ((((t205 ++ (⟨#[32]⟩ : ByteArray)) ++ ((⟨#[109, 116, 119, 104, 102, 115, 117]⟩ : ByteArray).extract (bt201.2.1 : Int).toNat ((wrap64 (bt201.2.1 + 1)) : Int).toNat)) ++ (⟨#[32]⟩ : ByteArray)) ++ t206)) else (none))) else (none)) else (none)) else (none)) else (none)) else (none)) else (none))) else (some (⟨#[]⟩ : ByteArray)))) = some r := h
  clear h
  replace H := Option.bind_eq_some_iff.mp H
  obtain ⟨⟨t201, t202, t203, t204⟩, A30, H⟩ := H
  replace H : (if t204 = true then ((digits_Print.f (wrap64 (t201 + 1))).bind fun t205 => (if t205.size + 1 ≤ 9223372036854775807 then (if 0 ≤ t202 then (if t202 ≤ (wrap64 (t202 + 1)) then (if (wrap64 (t202 + 1)) ≤ 7 then (if (t205 ++ (⟨#[32]⟩ : ByteArray)).size + ((⟨#[109, 116, 119, 104, 102, 115, 117]⟩ : ByteArray).extract (t202 : Int).toNat ((wrap64 (t202 + 1)) : Int).toNat).size ≤ 9223372036854775807 then (if ((t205 ++ (⟨#[32]⟩ : ByteArray)) ++ ((⟨#[109, 116, 119, 104, 102, 115, 117]⟩ : ByteArray).extract (t202 : Int).toNat ((wrap64 (t202 + 1)) : Int).toNat)).size + 1 ≤ 9223372036854775807 then ((digits_Print.f t203).bind fun t206 => (if (((t205 ++ (⟨#[32]⟩ : ByteArray)) ++ ((⟨#[109, 116, 119, 104, 102, 115, 117]⟩ : ByteArray).extract (t202 : Int).toNat ((wrap64 (t202 + 1)) : Int).toNat)) ++ (⟨#[32]⟩ : ByteArray)).size + t206.size ≤ 9223372036854775807 then (some ((((t205 ++ (⟨#[32]⟩ : ByteArray)) ++ ((⟨#[109, 116, 119, 104, 102, 115, 117]⟩ : ByteArray).extract (t202 : Int).toNat ((wrap64 (t202 + 1)) : Int).toNat)) ++ (⟨#[32]⟩ : ByteArray)) ++ t206)) else (none))) else (none)) else (none)) else (none)) else (none)) else (none)) else (none))) else (some (⟨#[]⟩ : ByteArray))) = some r := H
  have A3 := Aside0.mk A30
  clear A30
  by_cases c4 : t204 = true
  · subst c4
    have H1 : ((digits_Print.f (wrap64 (t201 + 1))).bind fun t205 => (if t205.size + 1 ≤ 9223372036854775807 then (if 0 ≤ t202 then (if t202 ≤ (wrap64 (t202 + 1)) then (if (wrap64 (t202 + 1)) ≤ 7 then (if (t205 ++ (⟨#[32]⟩ : ByteArray)).size + ((⟨#[109, 116, 119, 104, 102, 115, 117]⟩ : ByteArray).extract (t202 : Int).toNat ((wrap64 (t202 + 1)) : Int).toNat).size ≤ 9223372036854775807 then (if ((t205 ++ (⟨#[32]⟩ : ByteArray)) ++ ((⟨#[109, 116, 119, 104, 102, 115, 117]⟩ : ByteArray).extract (t202 : Int).toNat ((wrap64 (t202 + 1)) : Int).toNat)).size + 1 ≤ 9223372036854775807 then ((digits_Print.f t203).bind fun t206 => (if (((t205 ++ (⟨#[32]⟩ : ByteArray)) ++ ((⟨#[109, 116, 119, 104, 102, 115, 117]⟩ : ByteArray).extract (t202 : Int).toNat ((wrap64 (t202 + 1)) : Int).toNat)) ++ (⟨#[32]⟩ : ByteArray)).size + t206.size ≤ 9223372036854775807 then (some ((((t205 ++ (⟨#[32]⟩ : ByteArray)) ++ ((⟨#[109, 116, 119, 104, 102, 115, 117]⟩ : ByteArray).extract (t202 : Int).toNat ((wrap64 (t202 + 1)) : Int).toNat)) ++ (⟨#[32]⟩ : ByteArray)) ++ t206)) else (none))) else (none)) else (none)) else (none)) else (none)) else (none)) else (none))) = some r := by rw [if_pos rfl] at H; exact H
    clear H
    have H := H1
    clear H1
    replace H := Option.bind_eq_some_iff.mp H
    obtain ⟨t205, A50, H⟩ := H
    replace H : (if t205.size + 1 ≤ 9223372036854775807 then (if 0 ≤ t202 then (if t202 ≤ (wrap64 (t202 + 1)) then (if (wrap64 (t202 + 1)) ≤ 7 then (if (t205 ++ (⟨#[32]⟩ : ByteArray)).size + ((⟨#[109, 116, 119, 104, 102, 115, 117]⟩ : ByteArray).extract (t202 : Int).toNat ((wrap64 (t202 + 1)) : Int).toNat).size ≤ 9223372036854775807 then (if ((t205 ++ (⟨#[32]⟩ : ByteArray)) ++ ((⟨#[109, 116, 119, 104, 102, 115, 117]⟩ : ByteArray).extract (t202 : Int).toNat ((wrap64 (t202 + 1)) : Int).toNat)).size + 1 ≤ 9223372036854775807 then ((digits_Print.f t203).bind fun t206 => (if (((t205 ++ (⟨#[32]⟩ : ByteArray)) ++ ((⟨#[109, 116, 119, 104, 102, 115, 117]⟩ : ByteArray).extract (t202 : Int).toNat ((wrap64 (t202 + 1)) : Int).toNat)) ++ (⟨#[32]⟩ : ByteArray)).size + t206.size ≤ 9223372036854775807 then (some ((((t205 ++ (⟨#[32]⟩ : ByteArray)) ++ ((⟨#[109, 116, 119, 104, 102, 115, 117]⟩ : ByteArray).extract (t202 : Int).toNat ((wrap64 (t202 + 1)) : Int).toNat)) ++ (⟨#[32]⟩ : ByteArray)) ++ t206)) else (none))) else (none)) else (none)) else (none)) else (none)) else (none)) else (none)) = some r := H
    have A5 := Aside0.mk A50
    clear A50
    by_cases c6 : t205.size + 1 ≤ 9223372036854775807
    · rw [if_pos c6] at H
      have c6b0 := eq_true c6
      have c6b1 : decide (t205.size + 1 ≤ 9223372036854775807) = true := decide_eq_true c6
      try have c6b2 : (9223372036854775807 < t205.size + 1) = False := eq_false (Nat.not_lt.2 c6)
      by_cases c7 : 0 ≤ t202
      · rw [if_pos c7] at H
        have c7b0 := eq_true c7
        have c7b1 : decide (0 ≤ t202) = true := decide_eq_true c7
        clear c7
        by_cases c8 : t202 ≤ (wrap64 (t202 + 1))
        · rw [if_pos c8] at H
          have c8b0 := eq_true c8
          have c8b1 : decide (t202 ≤ (wrap64 (t202 + 1))) = true := decide_eq_true c8
          by_cases c9 : (wrap64 (t202 + 1)) ≤ 7
          · rw [if_pos c9] at H
            have c9b0 := eq_true c9
            have c9b1 : decide ((wrap64 (t202 + 1)) ≤ 7) = true := decide_eq_true c9
            by_cases c10 : (t205 ++ (⟨#[32]⟩ : ByteArray)).size + ((⟨#[109, 116, 119, 104, 102, 115, 117]⟩ : ByteArray).extract (t202 : Int).toNat ((wrap64 (t202 + 1)) : Int).toNat).size ≤ 9223372036854775807
            · rw [if_pos c10] at H
              have c10b0 := eq_true c10
              have c10b1 : decide ((t205 ++ (⟨#[32]⟩ : ByteArray)).size + ((⟨#[109, 116, 119, 104, 102, 115, 117]⟩ : ByteArray).extract (t202 : Int).toNat ((wrap64 (t202 + 1)) : Int).toNat).size ≤ 9223372036854775807) = true := decide_eq_true c10
              try have c10b2 : (9223372036854775807 < (t205 ++ (⟨#[32]⟩ : ByteArray)).size + ((⟨#[109, 116, 119, 104, 102, 115, 117]⟩ : ByteArray).extract (t202 : Int).toNat ((wrap64 (t202 + 1)) : Int).toNat).size) = False := eq_false (Nat.not_lt.2 c10)
              try (have c10b5_0 : (t205 ++ (⟨#[32]⟩ : ByteArray)).size = t205.size + 1 := by first | exact ByteArray.size_append | (rw [ByteArray.size_append]; done) | (rw [ByteArray.size_append]; rfl) | (simp only [ByteArray.size_append, Nat.add_assoc]; done) | (simp only [ByteArray.size_append, Nat.add_assoc]; rfl))
              try (have c10b5_1 : ((⟨#[109, 116, 119, 104, 102, 115, 117]⟩ : ByteArray).extract (t202 : Int).toNat ((wrap64 (t202 + 1)) : Int).toNat).size = ((wrap64 (t202 + 1)) : Int).toNat - (t202 : Int).toNat := by rw [ByteArray.size_extract, show (⟨#[109, 116, 119, 104, 102, 115, 117]⟩ : ByteArray).size = 7 from rfl]; omega)
              have c10b4 := c10
              try simp only [c10b5_0, c10b5_1] at c10b4
              try have c10b6 := eq_false (Nat.not_lt.2 c10b4)
              by_cases c11 : ((t205 ++ (⟨#[32]⟩ : ByteArray)) ++ ((⟨#[109, 116, 119, 104, 102, 115, 117]⟩ : ByteArray).extract (t202 : Int).toNat ((wrap64 (t202 + 1)) : Int).toNat)).size + 1 ≤ 9223372036854775807
              · rw [if_pos c11] at H
                have c11b0 := eq_true c11
                have c11b1 : decide (((t205 ++ (⟨#[32]⟩ : ByteArray)) ++ ((⟨#[109, 116, 119, 104, 102, 115, 117]⟩ : ByteArray).extract (t202 : Int).toNat ((wrap64 (t202 + 1)) : Int).toNat)).size + 1 ≤ 9223372036854775807) = true := decide_eq_true c11
                try have c11b2 : (9223372036854775807 < ((t205 ++ (⟨#[32]⟩ : ByteArray)) ++ ((⟨#[109, 116, 119, 104, 102, 115, 117]⟩ : ByteArray).extract (t202 : Int).toNat ((wrap64 (t202 + 1)) : Int).toNat)).size + 1) = False := eq_false (Nat.not_lt.2 c11)
                try (have c11b5_0 : (t205 ++ (⟨#[32]⟩ : ByteArray)).size = t205.size + 1 := by first | exact ByteArray.size_append | (rw [ByteArray.size_append]; done) | (rw [ByteArray.size_append]; rfl) | (simp only [ByteArray.size_append, Nat.add_assoc]; done) | (simp only [ByteArray.size_append, Nat.add_assoc]; rfl))
                try (have c11b5_1 : ((⟨#[109, 116, 119, 104, 102, 115, 117]⟩ : ByteArray).extract (t202 : Int).toNat ((wrap64 (t202 + 1)) : Int).toNat).size = ((wrap64 (t202 + 1)) : Int).toNat - (t202 : Int).toNat := by rw [ByteArray.size_extract, show (⟨#[109, 116, 119, 104, 102, 115, 117]⟩ : ByteArray).size = 7 from rfl]; omega)
                try (have c11b5_2 : ((t205 ++ (⟨#[32]⟩ : ByteArray)) ++ ((⟨#[109, 116, 119, 104, 102, 115, 117]⟩ : ByteArray).extract (t202 : Int).toNat ((wrap64 (t202 + 1)) : Int).toNat)).size = t205.size + 1 + ((((wrap64 (t202 + 1)) : Int).toNat - (t202 : Int).toNat)) := by first | exact ByteArray.size_append | (rw [ByteArray.size_append]; done) | (rw [ByteArray.size_append]; rfl) | (simp only [ByteArray.size_append, Nat.add_assoc]; done) | (simp only [ByteArray.size_append, Nat.add_assoc]; rfl) | (simp only [ByteArray.size_append, c11b5_1, c11b5_0]; done) | (simp only [ByteArray.size_append, c11b5_1, c11b5_0]; rfl))
                have c11b4 := c11
                try simp only [c11b5_0, c11b5_1, c11b5_2] at c11b4
                try have c11b6 := eq_false (Nat.not_lt.2 c11b4)
                replace H := Option.bind_eq_some_iff.mp H
                obtain ⟨t206, A120, H⟩ := H
                replace H : (if (((t205 ++ (⟨#[32]⟩ : ByteArray)) ++ ((⟨#[109, 116, 119, 104, 102, 115, 117]⟩ : ByteArray).extract (t202 : Int).toNat ((wrap64 (t202 + 1)) : Int).toNat)) ++ (⟨#[32]⟩ : ByteArray)).size + t206.size ≤ 9223372036854775807 then (some ((((t205 ++ (⟨#[32]⟩ : ByteArray)) ++ ((⟨#[109, 116, 119, 104, 102, 115, 117]⟩ : ByteArray).extract (t202 : Int).toNat ((wrap64 (t202 + 1)) : Int).toNat)) ++ (⟨#[32]⟩ : ByteArray)) ++ t206)) else (none)) = some r := H
                have A12 := Aside0.mk A120
                clear A120
                by_cases c13 : (((t205 ++ (⟨#[32]⟩ : ByteArray)) ++ ((⟨#[109, 116, 119, 104, 102, 115, 117]⟩ : ByteArray).extract (t202 : Int).toNat ((wrap64 (t202 + 1)) : Int).toNat)) ++ (⟨#[32]⟩ : ByteArray)).size + t206.size ≤ 9223372036854775807
                · rw [if_pos c13] at H
                  have c13b0 := eq_true c13
                  have c13b1 : decide ((((t205 ++ (⟨#[32]⟩ : ByteArray)) ++ ((⟨#[109, 116, 119, 104, 102, 115, 117]⟩ : ByteArray).extract (t202 : Int).toNat ((wrap64 (t202 + 1)) : Int).toNat)) ++ (⟨#[32]⟩ : ByteArray)).size + t206.size ≤ 9223372036854775807) = true := decide_eq_true c13
                  try have c13b2 : (9223372036854775807 < (((t205 ++ (⟨#[32]⟩ : ByteArray)) ++ ((⟨#[109, 116, 119, 104, 102, 115, 117]⟩ : ByteArray).extract (t202 : Int).toNat ((wrap64 (t202 + 1)) : Int).toNat)) ++ (⟨#[32]⟩ : ByteArray)).size + t206.size) = False := eq_false (Nat.not_lt.2 c13)
                  try (have c13b5_0 : (t205 ++ (⟨#[32]⟩ : ByteArray)).size = t205.size + 1 := by first | exact ByteArray.size_append | (rw [ByteArray.size_append]; done) | (rw [ByteArray.size_append]; rfl) | (simp only [ByteArray.size_append, Nat.add_assoc]; done) | (simp only [ByteArray.size_append, Nat.add_assoc]; rfl))
                  try (have c13b5_1 : ((⟨#[109, 116, 119, 104, 102, 115, 117]⟩ : ByteArray).extract (t202 : Int).toNat ((wrap64 (t202 + 1)) : Int).toNat).size = ((wrap64 (t202 + 1)) : Int).toNat - (t202 : Int).toNat := by rw [ByteArray.size_extract, show (⟨#[109, 116, 119, 104, 102, 115, 117]⟩ : ByteArray).size = 7 from rfl]; omega)
                  try (have c13b5_2 : ((t205 ++ (⟨#[32]⟩ : ByteArray)) ++ ((⟨#[109, 116, 119, 104, 102, 115, 117]⟩ : ByteArray).extract (t202 : Int).toNat ((wrap64 (t202 + 1)) : Int).toNat)).size = t205.size + 1 + ((((wrap64 (t202 + 1)) : Int).toNat - (t202 : Int).toNat)) := by first | exact ByteArray.size_append | (rw [ByteArray.size_append]; done) | (rw [ByteArray.size_append]; rfl) | (simp only [ByteArray.size_append, Nat.add_assoc]; done) | (simp only [ByteArray.size_append, Nat.add_assoc]; rfl) | (simp only [ByteArray.size_append, c13b5_1, c13b5_0]; done) | (simp only [ByteArray.size_append, c13b5_1, c13b5_0]; rfl))
                  try (have c13b5_3 : (((t205 ++ (⟨#[32]⟩ : ByteArray)) ++ ((⟨#[109, 116, 119, 104, 102, 115, 117]⟩ : ByteArray).extract (t202 : Int).toNat ((wrap64 (t202 + 1)) : Int).toNat)) ++ (⟨#[32]⟩ : ByteArray)).size = t205.size + 1 + (((wrap64 (t202 + 1)) : Int).toNat - (t202 : Int).toNat) + 1 := by first | exact ByteArray.size_append | (rw [ByteArray.size_append]; done) | (rw [ByteArray.size_append]; rfl) | (simp only [ByteArray.size_append, Nat.add_assoc]; done) | (simp only [ByteArray.size_append, Nat.add_assoc]; rfl) | (simp only [ByteArray.size_append, c13b5_2, c13b5_1, c13b5_0]; done) | (simp only [ByteArray.size_append, c13b5_2, c13b5_1, c13b5_0]; rfl))
                  have c13b4 := c13
                  try simp only [c13b5_0, c13b5_1, c13b5_2, c13b5_3] at c13b4
                  try have c13b6 := eq_false (Nat.not_lt.2 c13b4)
                  obtain rfl := Option.some.inj H
                  go_enter Tryd.func14, Tryd.ntmps14
                  try go_wp2_with (first | ((with_reducible refine gate_dst (N := 2) rfl ?_); refine box_event ?hg (N := 2) ?hd (cs := #[.int .i64 a0_0, .int .i64 a0_1, .int .i64 a0_2]) (t := 23) ?hr ?_; (case hd => rfl); (case hg => rfl); (case hr => first | (go_simp; done) | (go_simp; rfl)); intro gb200 hg w14 hbox hb; have n0_ := Aside0.mk (below_step (by repeat (first | (with_reducible first | exact HB.out | apply below_alloc | apply pw_below_drewN | apply below_drew1) | exact HB.out)) hb); have n1_ := Aside0.mk (hbox); have n2_ := Aside0.mk ((by rw [hg]; exact (below_size (by repeat (first | (with_reducible first | exact HB.out | apply below_alloc | apply pw_below_drewN | apply below_drew1) | exact HB.out))) : w.heap.size ≤ gb200)); have n3_ := Aside0.mk ((by rw [hg]; exact (below_size (by repeat (first | (with_reducible first | exact HB.out | apply below_alloc | apply pw_below_drewN | apply below_drew1) | exact HB.out))) : w.heap.size ≤ gb200)); clear HB; have HB := n0_; have BK200 := n1_; have GW200 := n2_; have GE200 := n3_; clear n0_ n1_ n2_ n3_; clear hb hbox hg; have hcz15_0 : w14.cell? ⟨gb200, 0, none⟩ = some (.int .i64 a0_0) := (blk_cell BK200.out 0).trans rfl; have hcz15_1 : w14.cell? ⟨gb200, 1, none⟩ = some (.int .i64 a0_1) := (blk_cell BK200.out 1).trans rfl; have hcz15_2 : w14.cell? ⟨gb200, 2, none⟩ = some (.int .i64 a0_2) := (blk_cell BK200.out 2).trans rfl; have hfz15_0 := blk_frozen BK200.out 0; have hfz15_1 := blk_frozen BK200.out 1; have hfz15_2 := blk_frozen BK200.out 2) | ((with_reducible refine gate_callee (f := 34) rfl ?_); refine goesL_ (some 12) rfl rfl Tryd.func34 (by kernel_rfl) rfl #[.agg #[.int .i64 a0_0, .int .i64 a0_1, .int .i64 a0_2], .int .i64 a1] rfl (by (try simp only [List.map_toArray, List.map_cons, List.map_nil]); first | done | rfl | (simp only [List.length_drop, List.length_take]; rfl)) ?_; (with_reducible refine (when_Of.calls a0_0 a0_1 a0_2 a1 t201 t202 t203 true _ A3.out).mono ?_); rintro e w16 ⟨rfl, hb⟩; refine ⟨_, rfl, ?_⟩; have n0_ := Aside0.mk (blk_below (g := gb200) (o := .cells #[.int .i64 a0_0, .int .i64 a0_1, .int .i64 a0_2] 23 (0, 0)) (by (with_reducible repeat (first | refine blk_drewN ?_ _ | refine blk_drew ?_ | refine blk_alloc ?_ _)); exact BK200.out) hb); have n1_ := Aside0.mk (below_step (by repeat (first | (with_reducible first | exact HB.out | apply below_alloc | apply pw_below_drewN | apply below_drew1 | refine below_set ?_ GE200.out) | exact HB.out)) hb); clear BK200; clear HB; have BK200 := n0_; have HB := n1_; clear n0_ n1_; (try clear hb); (try clear hb2); (try clear hk); (try clear hi)))
                  have n0_ := Aside0.mk (blk_drew BK200.out)
                  have n1_ := Aside0.mk (below_drew1 HB.out)
                  clear BK200
                  clear HB
                  have BK200 := n0_
                  have HB := n1_
                  clear n0_ n1_
                  refine start_ (n := 14) (S := fun w' => True) (ds := []) #[false, false, false, false, false, false, false, false, false, false, false, false, false, false] (by kernel_rfl) rfl rfl trivial (fun hHeld => ?_); refine with_tabW clock_Moment.tab4 clock_Moment.bits4 (fun HT_ HW_ => ?_)
                  generalize w16.drew = w17 at BK200 HB hHeld ⊢
                  refine pure_ (i := 0) (N := some 19) (v := ?_) (a' := ?_) #[true, false, false, false, false, false, false, false, false, false, false, false, false, false] rfl rfl (any_of HT_.out (by kernel_rfl)) (fun _ _ _ h => h) (Or.inl ⟨by rfl, ?_⟩) ?_ ?_
                  rotate_left
                  · intro w'
                    go_simp
                    with_reducible rfl
                  rotate_left
                  · simp only [Act.put, List.setIfInBounds_toArray, List.set_cons_zero, List.set_cons_succ, i64_w, i32_w]
                    rfl
                  refine pure_ (i := 1) (N := some 20) (v := ?_) (a' := ?_) #[true, true, false, false, false, false, false, false, false, false, false, false, false, false] rfl rfl (any_of HT_.out (by kernel_rfl)) (fun _ _ _ h => h) (Or.inl ⟨by rfl, ?_⟩) ?_ ?_
                  rotate_left
                  · intro w'
                    go_simp
                    with_reducible rfl
                  rotate_left
                  · simp only [Act.put, List.setIfInBounds_toArray, List.set_cons_zero, List.set_cons_succ, i64_w, i32_w]
                    rfl
                  refine pure_ (i := 4) (N := some 23) (v := ?_) (a' := ?_) #[true, true, false, false, true, false, false, false, false, false, false, false, false, false] rfl rfl (any_of HT_.out (by kernel_rfl)) (fun _ _ _ h => h) (Or.inl ⟨by rfl, ?_⟩) ?_ ?_
                  rotate_left
                  · intro w'
                    go_simp
                    with_reducible rfl
                  rotate_left
                  · simp only [Act.put, List.setIfInBounds_toArray, List.set_cons_zero, List.set_cons_succ, i64_w, i32_w]
                    rfl
                  refine pure_ (i := 5) (N := some 24) (v := ?_) (a' := ?_) #[true, true, false, false, true, true, false, false, false, false, false, false, false, false] rfl rfl (any_of HT_.out (by kernel_rfl)) (fun _ _ _ h => h) (Or.inl ⟨by rfl, ?_⟩) ?_ ?_
                  rotate_left
                  · intro w'
                    go_simp
                    with_reducible rfl
                  rotate_left
                  · simp only [Act.put, List.setIfInBounds_toArray, List.set_cons_zero, List.set_cons_succ, i64_w, i32_w]
                    rfl
                  refine pure_ (i := 6) (N := some 25) (v := ?_) (a' := ?_) #[true, true, false, false, true, true, true, false, false, false, false, false, false, false] rfl rfl (any_of HT_.out (by kernel_rfl)) (fun _ _ _ h => h) (Or.inl ⟨by rfl, ?_⟩) ?_ ?_
                  rotate_left
                  · intro w'
                    go_simp
                    with_reducible rfl
                  rotate_left
                  · simp only [Act.put, List.setIfInBounds_toArray, List.set_cons_zero, List.set_cons_succ, i64_w, i32_w]
                    rfl
                  refine pure_ (i := 7) (N := some 26) (v := ?_) (a' := ?_) #[true, true, false, false, true, true, true, true, false, false, false, false, false, false] rfl rfl (any_of HT_.out (by kernel_rfl)) (fun _ _ _ h => h) (Or.inl ⟨by rfl, ?_⟩) ?_ ?_
                  rotate_left
                  · intro w'
                    go_simp
                    with_reducible rfl
                  rotate_left
                  · simp only [Act.put, List.setIfInBounds_toArray, List.set_cons_zero, List.set_cons_succ, i64_w, i32_w]
                    rfl
                  refine pure_ (i := 10) (N := some 29) (v := ?_) (a' := ?_) #[true, true, false, false, true, true, true, true, false, false, true, false, false, false] rfl rfl (any_of HT_.out (by kernel_rfl)) (fun _ _ _ h => h) (Or.inl ⟨by rfl, ?_⟩) ?_ ?_
                  rotate_left
                  · intro w'
                    go_simp
                    with_reducible rfl
                  rotate_left
                  · simp only [Act.put, List.setIfInBounds_toArray, List.set_cons_zero, List.set_cons_succ, i64_w, i32_w]
                    rfl
                  refine one_ (i := 2) (N := some 21) #[true, true, true, false, true, true, true, true, false, false, true, false, false, false] rfl rfl (one_of HT_.out (by kernel_rfl)) (by decide) (fun K hK => ?_)
                  refine goes_ Tryd.func25 (by kernel_rfl) rfl #[.int .i64 (wrap64 (t201 + 1))] (by rfl) rfl rfl (by (try simp only [List.map_toArray, List.map_cons, List.map_nil]); first | done | rfl | (simp only [List.length_drop, List.length_take]; rfl)) ?_
                  with_reducible refine (digits_Print.calls (wrap64 (t201 + 1)) t205 _ A5.out).mono ?_
                  rintro e w18 ⟨rfl, hb⟩
                  refine ⟨_, rfl, ?_⟩
                  have n0_ := Aside0.mk (blk_below (g := gb200) (o := .cells #[.int .i64 a0_0, .int .i64 a0_1, .int .i64 a0_2] 23 (0, 0)) (by (with_reducible repeat (first | refine blk_drewN ?_ _ | refine blk_drew ?_ | refine blk_alloc ?_ _)); exact BK200.out) hb)
                  have n1_ := Aside0.mk (below_step (by repeat (first | (with_reducible first | exact HB.out | apply below_alloc | apply pw_below_drewN | apply below_drew1 | refine below_set ?_ GE200.out) | exact HB.out)) hb)
                  clear BK200
                  clear HB
                  have BK200 := n0_
                  have HB := n1_
                  clear n0_ n1_
                  (try clear hb)
                  (try clear hb2)
                  (try clear hk)
                  (try clear hi)
                  refine hK.out _ _ trivial (fun hHeld => ?_)
                  clear hK K
                  refine norm_ (a' := ?_) ?_ ?_
                  rotate_left
                  · show Act.put _ (some 21) _ = _
                    simp only [Act.put, List.setIfInBounds_toArray, List.set_cons_zero, List.set_cons_succ, i64_w, i32_w]
                    rfl
                  refine pure_ (i := 3) (N := some 22) (v := ?_) (a' := ?_) #[true, true, true, true, true, true, true, true, false, false, true, false, false, false] rfl rfl (any_of HT_.out (by kernel_rfl)) (fun _ _ _ h => h) (Or.inl ⟨by rfl, ?_⟩) ?_ ?_
                  rotate_left
                  · intro w'
                    go_simp
                    with_reducible rfl
                  rotate_left
                  · simp only [Act.put, List.setIfInBounds_toArray, List.set_cons_zero, List.set_cons_succ, i64_w, i32_w]
                    rfl
                  refine pure_ (i := 8) (N := some 27) (v := ?_) (a' := ?_) #[true, true, true, true, true, true, true, true, true, false, true, false, false, false] rfl rfl (any_of HT_.out (by kernel_rfl)) (fun _ _ _ h => h) (Or.inl ⟨by rfl, ?_⟩) ?_ ?_
                  rotate_left
                  · intro w'
                    go_simp
                    with_reducible rfl
                  rotate_left
                  · simp only [Act.put, List.setIfInBounds_toArray, List.set_cons_zero, List.set_cons_succ, i64_w, i32_w]
                    rfl
                  refine pure_ (i := 9) (N := some 28) (v := ?_) (a' := ?_) #[true, true, true, true, true, true, true, true, true, true, true, false, false, false] rfl rfl (any_of HT_.out (by kernel_rfl)) (fun _ _ _ h => h) (Or.inl ⟨by rfl, ?_⟩) ?_ ?_
                  rotate_left
                  · intro w'
                    go_simp
                    with_reducible rfl
                  rotate_left
                  · simp only [Act.put, List.setIfInBounds_toArray, List.set_cons_zero, List.set_cons_succ, i64_w, i32_w]
                    rfl
                  refine one_ (i := 11) (N := some 30) #[true, true, true, true, true, true, true, true, true, true, true, true, false, false] rfl rfl (one_of HT_.out (by kernel_rfl)) (by decide) (fun K hK => ?_)
                  refine goes_ Tryd.func25 (by kernel_rfl) rfl #[.int .i64 t203] (by rfl) rfl rfl (by (try simp only [List.map_toArray, List.map_cons, List.map_nil]); first | done | rfl | (simp only [List.length_drop, List.length_take]; rfl)) ?_
                  with_reducible refine (digits_Print.calls t203 t206 _ A12.out).mono ?_
                  rintro e w19 ⟨rfl, hb⟩
                  refine ⟨_, rfl, ?_⟩
                  have n0_ := Aside0.mk (blk_below (g := gb200) (o := .cells #[.int .i64 a0_0, .int .i64 a0_1, .int .i64 a0_2] 23 (0, 0)) (by (with_reducible repeat (first | refine blk_drewN ?_ _ | refine blk_drew ?_ | refine blk_alloc ?_ _)); exact BK200.out) hb)
                  have n1_ := Aside0.mk (below_step (by repeat (first | (with_reducible first | exact HB.out | apply below_alloc | apply pw_below_drewN | apply below_drew1 | refine below_set ?_ GE200.out) | exact HB.out)) hb)
                  clear BK200
                  clear HB
                  have BK200 := n0_
                  have HB := n1_
                  clear n0_ n1_
                  (try clear hb)
                  (try clear hb2)
                  (try clear hk)
                  (try clear hi)
                  refine hK.out _ _ trivial (fun hHeld => ?_)
                  clear hK K
                  refine norm_ (a' := ?_) ?_ ?_
                  rotate_left
                  · show Act.put _ (some 30) _ = _
                    simp only [Act.put, List.setIfInBounds_toArray, List.set_cons_zero, List.set_cons_succ, i64_w, i32_w]
                    rfl
                  refine pure_ (i := 12) (N := some 31) (v := ?_) (a' := ?_) #[true, true, true, true, true, true, true, true, true, true, true, true, true, false] rfl rfl (any_of HT_.out (by kernel_rfl)) (fun _ _ _ h => h) (Or.inl ⟨by rfl, ?_⟩) ?_ ?_
                  rotate_left
                  · intro w'
                    go_simp
                    with_reducible rfl
                  rotate_left
                  · simp only [Act.put, List.setIfInBounds_toArray, List.set_cons_zero, List.set_cons_succ, i64_w, i32_w]
                    rfl
                  refine pure_ (i := 13) (N := some 4) (v := ?_) (a' := ?_) #[true, true, true, true, true, true, true, true, true, true, true, true, true, true] rfl rfl (any_of HT_.out (by kernel_rfl)) (fun _ _ _ h => h) (Or.inl ⟨by rfl, ?_⟩) ?_ ?_
                  rotate_left
                  · intro w'
                    go_simp
                    with_reducible rfl
                  rotate_left
                  · simp only [Act.put, List.setIfInBounds_toArray, List.set_cons_zero, List.set_cons_succ, i64_w, i32_w]
                    rfl
                  refine done_ (done_of HT_.out (by kernel_rfl)) ?_
                  try go_wp2
                  go_ret
                  exact ⟨by first | rfl | (simp [errW_none, errW_some] <;> rfl) | (simp [*, errW_none, errW_some] <;> rfl), by repeat (first | (with_reducible first | exact HB.out | apply below_alloc | apply pw_below_drewN | apply below_drew1 | refine below_set ?_ GE200.out) | exact HB.out)⟩
                · rw [if_neg c13] at H
                  exact absurd H (by simp)
              · rw [if_neg c11] at H
                exact absurd H (by simp)
            · rw [if_neg c10] at H
              exact absurd H (by simp)
          · rw [if_neg c9] at H
            exact absurd H (by simp)
        · rw [if_neg c8] at H
          exact absurd H (by simp)
      · rw [if_neg c7] at H
        exact absurd H (by simp)
    · rw [if_neg c6] at H
      exact absurd H (by simp)
  · replace c4 := Bool.eq_false_iff.mpr c4
    subst c4
    have H1 : (some (⟨#[]⟩ : ByteArray)) = some r := by rw [if_neg (show ¬ (false = true) by decide)] at H; exact H
    clear H
    have H := H1
    clear H1
    obtain rfl := Option.some.inj H
    go_enter Tryd.func14, Tryd.ntmps14
    go_wp2_with (first | ((with_reducible refine gate_dst (N := 2) rfl ?_); refine box_event ?hg (N := 2) ?hd (cs := #[.int .i64 a0_0, .int .i64 a0_1, .int .i64 a0_2]) (t := 23) ?hr ?_; (case hd => rfl); (case hg => rfl); (case hr => first | (go_simp; done) | (go_simp; rfl)); intro gb200 hg w20 hbox hb; have n0_ := Aside0.mk (below_step (by repeat (first | (with_reducible first | exact HB.out | apply below_alloc | apply pw_below_drewN | apply below_drew1) | exact HB.out)) hb); have n1_ := Aside0.mk (hbox); have n2_ := Aside0.mk ((by rw [hg]; exact (below_size (by repeat (first | (with_reducible first | exact HB.out | apply below_alloc | apply pw_below_drewN | apply below_drew1) | exact HB.out))) : w.heap.size ≤ gb200)); have n3_ := Aside0.mk ((by rw [hg]; exact (below_size (by repeat (first | (with_reducible first | exact HB.out | apply below_alloc | apply pw_below_drewN | apply below_drew1) | exact HB.out))) : w.heap.size ≤ gb200)); clear HB; have HB := n0_; have BK200 := n1_; have GW200 := n2_; have GE200 := n3_; clear n0_ n1_ n2_ n3_; clear hb hbox hg; have hcz21_0 : w20.cell? ⟨gb200, 0, none⟩ = some (.int .i64 a0_0) := (blk_cell BK200.out 0).trans rfl; have hcz21_1 : w20.cell? ⟨gb200, 1, none⟩ = some (.int .i64 a0_1) := (blk_cell BK200.out 1).trans rfl; have hcz21_2 : w20.cell? ⟨gb200, 2, none⟩ = some (.int .i64 a0_2) := (blk_cell BK200.out 2).trans rfl; have hfz21_0 := blk_frozen BK200.out 0; have hfz21_1 := blk_frozen BK200.out 1; have hfz21_2 := blk_frozen BK200.out 2) | ((with_reducible refine gate_callee (f := 34) rfl ?_); refine goesL_ (some 12) rfl rfl Tryd.func34 (by kernel_rfl) rfl #[.agg #[.int .i64 a0_0, .int .i64 a0_1, .int .i64 a0_2], .int .i64 a1] rfl (by (try simp only [List.map_toArray, List.map_cons, List.map_nil]); first | done | rfl | (simp only [List.length_drop, List.length_take]; rfl)) ?_; (with_reducible refine (when_Of.calls a0_0 a0_1 a0_2 a1 t201 t202 t203 false _ A3.out).mono ?_); rintro e w22 ⟨rfl, hb⟩; refine ⟨_, rfl, ?_⟩; have n0_ := Aside0.mk (blk_below (g := gb200) (o := .cells #[.int .i64 a0_0, .int .i64 a0_1, .int .i64 a0_2] 23 (0, 0)) (by (with_reducible repeat (first | refine blk_drewN ?_ _ | refine blk_drew ?_ | refine blk_alloc ?_ _)); exact BK200.out) hb); have n1_ := Aside0.mk (below_step (by repeat (first | (with_reducible first | exact HB.out | apply below_alloc | apply pw_below_drewN | apply below_drew1 | refine below_set ?_ GE200.out) | exact HB.out)) hb); clear BK200; clear HB; have BK200 := n0_; have HB := n1_; clear n0_ n1_; (try clear hb); (try clear hb2); (try clear hk); (try clear hi)))
    go_ret
    exact ⟨by first | rfl | (simp [errW_none, errW_some] <;> rfl) | (simp [*, errW_none, errW_some] <;> rfl), by repeat (first | (with_reducible first | exact HB.out | apply below_alloc | apply pw_below_drewN | apply below_drew1 | refine below_set ?_ GE200.out) | exact HB.out)⟩
def horariumlaw10_heads.f (k : Nat)  : Option (Bool) := (clock_Parse.f k 3 5 40 (⟨#[49, 45, 51, 32, 109, 119, 32, 49, 54, 43, 52]⟩ : ByteArray)).bind fun bt209 => ((clock_ParseWeeks.f k (⟨#[49, 44, 50]⟩ : ByteArray)).bind fun bt215 => ((clock_Print.f k 3 5 40 7 5 16 4).bind fun t217 => (if t217.toList = ([49, 45, 51, 32, 109, 119, 32, 49, 54, 43, 52] : List UInt8) then (if (bt209.1 == 7 && (bt209.2.1 == 5 && (bt209.2.2.1 == 16 && (bt209.2.2.2.1 == 4)))) = true then (if bt209.2.2.2.2 = 0 then (if bt215.2 = 3 then ((clock_Moment.f 3 5 40 41).bind fun t218 => (if t218.toList = ([49, 32, 116, 32, 49] : List UInt8) then ((clock_Days.f 3).bind fun t219 => (if t219.toList = ([109, 116] : List UInt8) then ((clock_Weeks.f k 5).bind fun t220 => (some (t220.toList == ([49, 44, 51] : List UInt8)))) else (none))) else (none))) else (none)) else (none)) else (none)) else (none))))
theorem horariumlaw10_heads.mono : ∀ k, LeO (horariumlaw10_heads.f k ) (horariumlaw10_heads.f (k + 1) ) := by
  intro  k
  unfold horariumlaw10_heads.f
  repeat' first
      | (with_reducible exact clock_Parse.mono _ _ _ _ _)
      | (with_reducible exact clock_ParseWeeks.mono _ _)
      | (with_reducible exact clock_Print.mono _ _ _ _ _ _ _ _)
      | (with_reducible exact clock_Weeks.mono _ _)
      | (with_reducible exact LeO.refl _)
      | (with_reducible exact LeO.none _)
      | (with_reducible refine LeO.ite ?_ ?_)
      | (with_reducible refine LeO.bind ?_ (fun _ => ?_))
      | exact clock_Parse.mono _ _ _ _ _
      | exact clock_ParseWeeks.mono _ _
      | exact clock_Print.mono _ _ _ _ _ _ _ _
      | exact clock_Weeks.mono _ _
      | exact LeO.none _
      | refine LeO.ite ?_ ?_
      | refine LeO.bind ?_ (fun _ => ?_)
set_option maxHeartbeats 8000000 in
set_option maxRecDepth 100000 in
theorem horariumlaw10_heads.calls (k : Nat)  (r : Bool) (w : World) (h : horariumlaw10_heads.f k  = some r) :
    Calls Tryd.prog 9 #[] w fun e w' => e = .returned (.bool r) ∧ Below w.heap.size w w' := by
  have hu23 := Tryd.underlying23
  have hu26 := Tryd.underlying26
  have HB := Aside0.mk (Below.refl w.heap.size w)
  have H : ((clock_Parse.f k 3 5 40 (⟨#[49, 45, 51, 32, 109, 119, 32, 49, 54, 43, 52]⟩ : ByteArray)).bind fun bt209 => ((clock_ParseWeeks.f k (⟨#[49, 44, 50]⟩ : ByteArray)).bind fun bt215 => ((clock_Print.f k 3 5 40 7 5 16 4).bind fun t217 => (if t217.toList = ([49, 45, 51, 32, 109, 119, 32, 49, 54, 43, 52] : List UInt8) then (if (bt209.1 == 7 && (bt209.2.1 == 5 && (bt209.2.2.1 == 16 && (bt209.2.2.2.1 == 4)))) = true then (if bt209.2.2.2.2 = 0 then (if bt215.2 = 3 then ((clock_Moment.f 3 5 40 41).bind fun t218 => (if t218.toList = ([49, 32, 116, 32, 49] : List UInt8) then ((clock_Days.f 3).bind fun t219 => (if t219.toList = ([109, 116] : List UInt8) then ((clock_Weeks.f k 5).bind fun t220 => (some (t220.toList == ([49, 44, 51] : List UInt8)))) else (none))) else (none))) else (none)) else (none)) else (none)) else (none))))) = some r := h
  clear h
  replace H := Option.bind_eq_some_iff.mp H
  obtain ⟨⟨t209, t210, t211, t212, t213⟩, A10, H⟩ := H
  replace H : ((clock_ParseWeeks.f k (⟨#[49, 44, 50]⟩ : ByteArray)).bind fun bt215 => ((clock_Print.f k 3 5 40 7 5 16 4).bind fun t217 => (if t217.toList = ([49, 45, 51, 32, 109, 119, 32, 49, 54, 43, 52] : List UInt8) then (if (t209 == 7 && (t210 == 5 && (t211 == 16 && (t212 == 4)))) = true then (if t213 = 0 then (if bt215.2 = 3 then ((clock_Moment.f 3 5 40 41).bind fun t218 => (if t218.toList = ([49, 32, 116, 32, 49] : List UInt8) then ((clock_Days.f 3).bind fun t219 => (if t219.toList = ([109, 116] : List UInt8) then ((clock_Weeks.f k 5).bind fun t220 => (some (t220.toList == ([49, 44, 51] : List UInt8)))) else (none))) else (none))) else (none)) else (none)) else (none)) else (none)))) = some r := H
  have A1 := Aside0.mk A10
  clear A10
  replace H := Option.bind_eq_some_iff.mp H
  obtain ⟨⟨t215, t216⟩, A20, H⟩ := H
  replace H : ((clock_Print.f k 3 5 40 7 5 16 4).bind fun t217 => (if t217.toList = ([49, 45, 51, 32, 109, 119, 32, 49, 54, 43, 52] : List UInt8) then (if (t209 == 7 && (t210 == 5 && (t211 == 16 && (t212 == 4)))) = true then (if t213 = 0 then (if t216 = 3 then ((clock_Moment.f 3 5 40 41).bind fun t218 => (if t218.toList = ([49, 32, 116, 32, 49] : List UInt8) then ((clock_Days.f 3).bind fun t219 => (if t219.toList = ([109, 116] : List UInt8) then ((clock_Weeks.f k 5).bind fun t220 => (some (t220.toList == ([49, 44, 51] : List UInt8)))) else (none))) else (none))) else (none)) else (none)) else (none)) else (none))) = some r := H
  have A2 := Aside0.mk A20
  clear A20
  replace H := Option.bind_eq_some_iff.mp H
  obtain ⟨t217, A30, H⟩ := H
  replace H : (if t217.toList = ([49, 45, 51, 32, 109, 119, 32, 49, 54, 43, 52] : List UInt8) then (if (t209 == 7 && (t210 == 5 && (t211 == 16 && (t212 == 4)))) = true then (if t213 = 0 then (if t216 = 3 then ((clock_Moment.f 3 5 40 41).bind fun t218 => (if t218.toList = ([49, 32, 116, 32, 49] : List UInt8) then ((clock_Days.f 3).bind fun t219 => (if t219.toList = ([109, 116] : List UInt8) then ((clock_Weeks.f k 5).bind fun t220 => (some (t220.toList == ([49, 44, 51] : List UInt8)))) else (none))) else (none))) else (none)) else (none)) else (none)) else (none)) = some r := H
  have A3 := Aside0.mk A30
  clear A30
  by_cases c4 : t217.toList = ([49, 45, 51, 32, 109, 119, 32, 49, 54, 43, 52] : List UInt8)
  · rw [if_pos c4] at H
    have c4b0 : (t217.toList == ([49, 45, 51, 32, 109, 119, 32, 49, 54, 43, 52] : List UInt8)) = true := beq_iff_eq.mpr c4
    have c4b1 : (t217.toList != ([49, 45, 51, 32, 109, 119, 32, 49, 54, 43, 52] : List UInt8)) = false := bne_eq_false_iff_eq.mpr c4
    clear c4
    by_cases c5 : (t209 == 7 && (t210 == 5 && (t211 == 16 && (t212 == 4)))) = true
    · rw [if_pos c5] at H
      have c5b0 : (t209 == 7 && (t210 == 5 && (t211 == 16 && (t212 == 4)))) = true := c5
      (try (have c5b1 : decide (t209 = 7 && (t210 == 5 && (t211 == 16 && (t212 == 4)))) = true := by simpa using c5))
      (try (have c5b2 : (t209 == 7 && (t210 == 5 && (t211 == 16 && (t212 == 4)))) = true := by simpa using c5))
      clear c5
      by_cases c6 : t213 = 0
      · rw [if_pos c6] at H
        have c6b0 : (t213 == 0) = true := beq_iff_eq.mpr c6
        have c6b1 : (t213 != 0) = false := bne_eq_false_iff_eq.mpr c6
        clear c6
        by_cases c7 : t216 = 3
        · rw [if_pos c7] at H
          have c7b0 : (t216 == 3) = true := beq_iff_eq.mpr c7
          have c7b1 : (t216 != 3) = false := bne_eq_false_iff_eq.mpr c7
          clear c7
          replace H := Option.bind_eq_some_iff.mp H
          obtain ⟨t218, A80, H⟩ := H
          replace H : (if t218.toList = ([49, 32, 116, 32, 49] : List UInt8) then ((clock_Days.f 3).bind fun t219 => (if t219.toList = ([109, 116] : List UInt8) then ((clock_Weeks.f k 5).bind fun t220 => (some (t220.toList == ([49, 44, 51] : List UInt8)))) else (none))) else (none)) = some r := H
          have A8 := Aside0.mk A80
          clear A80
          by_cases c9 : t218.toList = ([49, 32, 116, 32, 49] : List UInt8)
          · rw [if_pos c9] at H
            have c9b0 : (t218.toList == ([49, 32, 116, 32, 49] : List UInt8)) = true := beq_iff_eq.mpr c9
            have c9b1 : (t218.toList != ([49, 32, 116, 32, 49] : List UInt8)) = false := bne_eq_false_iff_eq.mpr c9
            clear c9
            replace H := Option.bind_eq_some_iff.mp H
            obtain ⟨t219, A100, H⟩ := H
            replace H : (if t219.toList = ([109, 116] : List UInt8) then ((clock_Weeks.f k 5).bind fun t220 => (some (t220.toList == ([49, 44, 51] : List UInt8)))) else (none)) = some r := H
            have A10 := Aside0.mk A100
            clear A100
            by_cases c11 : t219.toList = ([109, 116] : List UInt8)
            · rw [if_pos c11] at H
              have c11b0 : (t219.toList == ([109, 116] : List UInt8)) = true := beq_iff_eq.mpr c11
              have c11b1 : (t219.toList != ([109, 116] : List UInt8)) = false := bne_eq_false_iff_eq.mpr c11
              clear c11
              replace H := Option.bind_eq_some_iff.mp H
              obtain ⟨t220, A120, H⟩ := H
              replace H : (some (t220.toList == ([49, 44, 51] : List UInt8))) = some r := H
              have A12 := Aside0.mk A120
              clear A120
              obtain rfl := Option.some.inj H
              go_enter Tryd.func9, Tryd.ntmps9
              go_wp2_with (first | ((with_reducible refine gate_dst (N := 1) rfl ?_); refine box_event ?hg (N := 1) ?hd (cs := #[.int .i64 0, .int .i64 0, .int .i64 0]) (t := 23) ?hr ?_; (case hd => rfl); (case hg => rfl); (case hr => first | (go_simp; done) | (go_simp; rfl)); intro gb207 hg w13 hbox hb; have n0_ := Aside0.mk (below_step (by repeat (first | (with_reducible first | exact HB.out | apply below_alloc | apply pw_below_drewN | apply below_drew1) | exact HB.out)) hb); have n1_ := Aside0.mk (hbox); have n2_ := Aside0.mk ((by rw [hg]; exact (below_size (by repeat (first | (with_reducible first | exact HB.out | apply below_alloc | apply pw_below_drewN | apply below_drew1) | exact HB.out))) : w.heap.size ≤ gb207)); have n3_ := Aside0.mk ((by rw [hg]; exact (below_size (by repeat (first | (with_reducible first | exact HB.out | apply below_alloc | apply pw_below_drewN | apply below_drew1) | exact HB.out))) : w.heap.size ≤ gb207)); clear HB; have HB := n0_; have BK207 := n1_; have GW207 := n2_; have GE207 := n3_; clear n0_ n1_ n2_ n3_; clear hb hbox hg; have hcz14_0 : w13.cell? ⟨gb207, 0, none⟩ = some (.int .i64 0) := (blk_cell BK207.out 0).trans rfl; have hcz14_1 : w13.cell? ⟨gb207, 1, none⟩ = some (.int .i64 0) := (blk_cell BK207.out 1).trans rfl; have hcz14_2 : w13.cell? ⟨gb207, 2, none⟩ = some (.int .i64 0) := (blk_cell BK207.out 2).trans rfl; have hfz14_0 := blk_frozen BK207.out 0; have hfz14_1 := blk_frozen BK207.out 1; have hfz14_2 := blk_frozen BK207.out 2) | ((with_reducible refine gate_dst (N := 2) rfl ?_); refine box_event ?hg (N := 2) ?hd (cs := #[.int .u32 0, .int .u8 0, .int .i64 0, .int .i64 0]) (t := 26) ?hr ?_; (case hd => rfl); (case hg => rfl); (case hr => first | (go_simp; done) | (go_simp; rfl)); intro gb208 hg w15 hbox hb; have n0_ := Aside0.mk (blk_below (g := gb207) (o := .cells #[.int .i64 3, .int .i64 5, .int .i64 40] 23 (0, 0)) (by (with_reducible repeat (first | refine blk_drewN ?_ _ | refine blk_drew ?_ | refine blk_alloc ?_ _)); refine blk_put (cs := #[.int .i64 3, .int .i64 5, .int .i64 0]) ?_ 2 _ rfl; (with_reducible repeat (first | refine blk_drewN ?_ _ | refine blk_drew ?_ | refine blk_alloc ?_ _)); refine blk_put (cs := #[.int .i64 3, .int .i64 0, .int .i64 0]) ?_ 1 _ rfl; (with_reducible repeat (first | refine blk_drewN ?_ _ | refine blk_drew ?_ | refine blk_alloc ?_ _)); refine blk_put (cs := #[.int .i64 0, .int .i64 0, .int .i64 0]) ?_ 0 _ rfl; (with_reducible repeat (first | refine blk_drewN ?_ _ | refine blk_drew ?_ | refine blk_alloc ?_ _)); exact BK207.out) hb); have n1_ := Aside0.mk (below_step (by repeat (first | (with_reducible first | exact HB.out | apply below_alloc | apply pw_below_drewN | apply below_drew1 | refine below_set ?_ GE207.out) | exact HB.out)) hb); have n2_ := Aside0.mk (hbox); have n3_ := Aside0.mk ((by rw [hg]; exact (below_size (by repeat (first | (with_reducible first | exact HB.out | apply below_alloc | apply pw_below_drewN | apply below_drew1 | refine below_set ?_ GE207.out) | exact HB.out))) : w.heap.size ≤ gb208)); have n4_ := Aside0.mk ((by rw [hg]; exact (below_size (by repeat (first | (with_reducible first | exact HB.out | apply below_alloc | apply pw_below_drewN | apply below_drew1 | refine below_set ?_ GE207.out) | exact HB.out))) : w.heap.size ≤ gb208)); have n5_ := Aside0.mk ((by rw [hg]; exact Nat.ne_of_lt (blk_lt (g := gb207) (o := .cells #[.int .i64 3, .int .i64 5, .int .i64 40] 23 (0, 0)) (by (with_reducible repeat (first | refine blk_drewN ?_ _ | refine blk_drew ?_ | refine blk_alloc ?_ _)); refine blk_put (cs := #[.int .i64 3, .int .i64 5, .int .i64 0]) ?_ 2 _ rfl; (with_reducible repeat (first | refine blk_drewN ?_ _ | refine blk_drew ?_ | refine blk_alloc ?_ _)); refine blk_put (cs := #[.int .i64 3, .int .i64 0, .int .i64 0]) ?_ 1 _ rfl; (with_reducible repeat (first | refine blk_drewN ?_ _ | refine blk_drew ?_ | refine blk_alloc ?_ _)); refine blk_put (cs := #[.int .i64 0, .int .i64 0, .int .i64 0]) ?_ 0 _ rfl; (with_reducible repeat (first | refine blk_drewN ?_ _ | refine blk_drew ?_ | refine blk_alloc ?_ _)); exact BK207.out)) : gb207 ≠ gb208)); have n6_ := Aside0.mk ((by rw [hg]; exact Nat.ne_of_gt (blk_lt (g := gb207) (o := .cells #[.int .i64 3, .int .i64 5, .int .i64 40] 23 (0, 0)) (by (with_reducible repeat (first | refine blk_drewN ?_ _ | refine blk_drew ?_ | refine blk_alloc ?_ _)); refine blk_put (cs := #[.int .i64 3, .int .i64 5, .int .i64 0]) ?_ 2 _ rfl; (with_reducible repeat (first | refine blk_drewN ?_ _ | refine blk_drew ?_ | refine blk_alloc ?_ _)); refine blk_put (cs := #[.int .i64 3, .int .i64 0, .int .i64 0]) ?_ 1 _ rfl; (with_reducible repeat (first | refine blk_drewN ?_ _ | refine blk_drew ?_ | refine blk_alloc ?_ _)); refine blk_put (cs := #[.int .i64 0, .int .i64 0, .int .i64 0]) ?_ 0 _ rfl; (with_reducible repeat (first | refine blk_drewN ?_ _ | refine blk_drew ?_ | refine blk_alloc ?_ _)); exact BK207.out)) : gb208 ≠ gb207)); clear BK207; clear HB; have BK207 := n0_; have HB := n1_; have BK208 := n2_; have GW208 := n3_; have GE208 := n4_; have NB207_208 := n5_; have NB208_207 := n6_; clear n0_ n1_ n2_ n3_ n4_ n5_ n6_; clear hb hbox hg; have hnb16 := NB208_207.out; have hnc16 := NB207_208.out; have hcz17_0 : w15.cell? ⟨gb208, 0, none⟩ = some (.int .u32 0) := (blk_cell BK208.out 0).trans rfl; have hcz17_1 : w15.cell? ⟨gb208, 1, none⟩ = some (.int .u8 0) := (blk_cell BK208.out 1).trans rfl; have hcz17_2 : w15.cell? ⟨gb208, 2, none⟩ = some (.int .i64 0) := (blk_cell BK208.out 2).trans rfl; have hcz17_3 : w15.cell? ⟨gb208, 3, none⟩ = some (.int .i64 0) := (blk_cell BK208.out 3).trans rfl; have hfz17_0 := blk_frozen BK208.out 0; have hfz17_1 := blk_frozen BK208.out 1; have hfz17_2 := blk_frozen BK208.out 2; have hfz17_3 := blk_frozen BK208.out 3; have hcz18_0 : w15.cell? ⟨gb207, 0, none⟩ = some (.int .i64 3) := (blk_cell BK207.out 0).trans rfl; have hcz18_1 : w15.cell? ⟨gb207, 1, none⟩ = some (.int .i64 5) := (blk_cell BK207.out 1).trans rfl; have hcz18_2 : w15.cell? ⟨gb207, 2, none⟩ = some (.int .i64 40) := (blk_cell BK207.out 2).trans rfl; have hfz18_0 := blk_frozen BK207.out 0; have hfz18_1 := blk_frozen BK207.out 1; have hfz18_2 := blk_frozen BK207.out 2) | ((with_reducible refine gate_callee (f := 11) rfl ?_); refine goesL_ (some 11) rfl rfl Tryd.func11 (by kernel_rfl) rfl #[.agg #[.int .i64 3, .int .i64 5, .int .i64 40], .string (⟨#[49, 45, 51, 32, 109, 119, 32, 49, 54, 43, 52]⟩ : ByteArray)] rfl (by (try simp only [List.map_toArray, List.map_cons, List.map_nil]); first | done | rfl | (simp only [List.length_drop, List.length_take]; rfl)) ?_; (with_reducible refine (clock_Parse.calls k 3 5 40 (⟨#[49, 45, 51, 32, 109, 119, 32, 49, 54, 43, 52]⟩ : ByteArray) t209 t210 t211 t212 t213 _ A1.out).mono ?_); rintro e w19 ⟨rfl, hb⟩; refine ⟨_, rfl, ?_⟩; have n0_ := Aside0.mk (blk_below (g := gb207) (o := .cells #[.int .i64 3, .int .i64 5, .int .i64 40] 23 (0, 0)) (by (with_reducible repeat (first | refine blk_drewN ?_ _ | refine blk_drew ?_ | refine blk_alloc ?_ _)); refine blk_far ?_ NB207_208.out _; (with_reducible repeat (first | refine blk_drewN ?_ _ | refine blk_drew ?_ | refine blk_alloc ?_ _)); refine blk_far ?_ NB207_208.out _; (with_reducible repeat (first | refine blk_drewN ?_ _ | refine blk_drew ?_ | refine blk_alloc ?_ _)); refine blk_far ?_ NB207_208.out _; (with_reducible repeat (first | refine blk_drewN ?_ _ | refine blk_drew ?_ | refine blk_alloc ?_ _)); refine blk_far ?_ NB207_208.out _; (with_reducible repeat (first | refine blk_drewN ?_ _ | refine blk_drew ?_ | refine blk_alloc ?_ _)); exact BK207.out) hb); have n1_ := Aside0.mk (blk_below (g := gb208) (o := .cells #[.int .u32 7, .int .u8 5, .int .i64 16, .int .i64 4] 26 (0, 0)) (by (with_reducible repeat (first | refine blk_drewN ?_ _ | refine blk_drew ?_ | refine blk_alloc ?_ _)); refine blk_put (cs := #[.int .u32 7, .int .u8 5, .int .i64 16, .int .i64 0]) ?_ 3 _ rfl; (with_reducible repeat (first | refine blk_drewN ?_ _ | refine blk_drew ?_ | refine blk_alloc ?_ _)); refine blk_put (cs := #[.int .u32 7, .int .u8 5, .int .i64 0, .int .i64 0]) ?_ 2 _ rfl; (with_reducible repeat (first | refine blk_drewN ?_ _ | refine blk_drew ?_ | refine blk_alloc ?_ _)); refine blk_put (cs := #[.int .u32 7, .int .u8 0, .int .i64 0, .int .i64 0]) ?_ 1 _ rfl; (with_reducible repeat (first | refine blk_drewN ?_ _ | refine blk_drew ?_ | refine blk_alloc ?_ _)); refine blk_put (cs := #[.int .u32 0, .int .u8 0, .int .i64 0, .int .i64 0]) ?_ 0 _ rfl; (with_reducible repeat (first | refine blk_drewN ?_ _ | refine blk_drew ?_ | refine blk_alloc ?_ _)); exact BK208.out) hb); have n2_ := Aside0.mk (below_step (by repeat (first | (with_reducible first | exact HB.out | apply below_alloc | apply pw_below_drewN | apply below_drew1 | refine below_set ?_ GE207.out | refine below_set ?_ GE208.out) | exact HB.out)) hb); clear BK207; clear BK208; clear HB; have BK207 := n0_; have BK208 := n1_; have HB := n2_; clear n0_ n1_ n2_; (try clear hb); (try clear hb2); (try clear hk); (try clear hi)) | ((with_reducible refine gate_dst (N := 3) rfl ?_); refine box_event ?hg (N := 3) ?hd (cs := #[.int .u32 0, .int .u8 0, .int .i64 0, .int .i64 0]) (t := 26) ?hr ?_; (case hd => rfl); (case hg => rfl); (case hr => first | (go_simp; done) | (go_simp; rfl)); intro gb214 hg w20 hbox hb; have n0_ := Aside0.mk (blk_below (g := gb207) (o := .cells #[.int .i64 3, .int .i64 5, .int .i64 40] 23 (0, 0)) (by (with_reducible repeat (first | refine blk_drewN ?_ _ | refine blk_drew ?_ | refine blk_alloc ?_ _)); exact BK207.out) hb); have n1_ := Aside0.mk (blk_below (g := gb208) (o := .cells #[.int .u32 7, .int .u8 5, .int .i64 16, .int .i64 4] 26 (0, 0)) (by (with_reducible repeat (first | refine blk_drewN ?_ _ | refine blk_drew ?_ | refine blk_alloc ?_ _)); exact BK208.out) hb); have n2_ := Aside0.mk (below_step (by repeat (first | (with_reducible first | exact HB.out | apply below_alloc | apply pw_below_drewN | apply below_drew1 | refine below_set ?_ GE207.out | refine below_set ?_ GE208.out) | exact HB.out)) hb); have n3_ := Aside0.mk (hbox); have n4_ := Aside0.mk ((by rw [hg]; exact (below_size (by repeat (first | (with_reducible first | exact HB.out | apply below_alloc | apply pw_below_drewN | apply below_drew1 | refine below_set ?_ GE207.out | refine below_set ?_ GE208.out) | exact HB.out))) : w.heap.size ≤ gb214)); have n5_ := Aside0.mk ((by rw [hg]; exact (below_size (by repeat (first | (with_reducible first | exact HB.out | apply below_alloc | apply pw_below_drewN | apply below_drew1 | refine below_set ?_ GE207.out | refine below_set ?_ GE208.out) | exact HB.out))) : w.heap.size ≤ gb214)); have n6_ := Aside0.mk ((by rw [hg]; exact Nat.ne_of_lt (blk_lt (g := gb207) (o := .cells #[.int .i64 3, .int .i64 5, .int .i64 40] 23 (0, 0)) (by (with_reducible repeat (first | refine blk_drewN ?_ _ | refine blk_drew ?_ | refine blk_alloc ?_ _)); exact BK207.out)) : gb207 ≠ gb214)); have n7_ := Aside0.mk ((by rw [hg]; exact Nat.ne_of_gt (blk_lt (g := gb207) (o := .cells #[.int .i64 3, .int .i64 5, .int .i64 40] 23 (0, 0)) (by (with_reducible repeat (first | refine blk_drewN ?_ _ | refine blk_drew ?_ | refine blk_alloc ?_ _)); exact BK207.out)) : gb214 ≠ gb207)); have n8_ := Aside0.mk ((by rw [hg]; exact Nat.ne_of_lt (blk_lt (g := gb208) (o := .cells #[.int .u32 7, .int .u8 5, .int .i64 16, .int .i64 4] 26 (0, 0)) (by (with_reducible repeat (first | refine blk_drewN ?_ _ | refine blk_drew ?_ | refine blk_alloc ?_ _)); exact BK208.out)) : gb208 ≠ gb214)); have n9_ := Aside0.mk ((by rw [hg]; exact Nat.ne_of_gt (blk_lt (g := gb208) (o := .cells #[.int .u32 7, .int .u8 5, .int .i64 16, .int .i64 4] 26 (0, 0)) (by (with_reducible repeat (first | refine blk_drewN ?_ _ | refine blk_drew ?_ | refine blk_alloc ?_ _)); exact BK208.out)) : gb214 ≠ gb208)); clear BK207; clear BK208; clear HB; have BK207 := n0_; have BK208 := n1_; have HB := n2_; have BK214 := n3_; have GW214 := n4_; have GE214 := n5_; have NB207_214 := n6_; have NB214_207 := n7_; have NB208_214 := n8_; have NB214_208 := n9_; clear n0_ n1_ n2_ n3_ n4_ n5_ n6_ n7_ n8_ n9_; clear hb hbox hg; have hnb21 := NB214_207.out; have hnc21 := NB207_214.out; have hnb22 := NB214_208.out; have hnc22 := NB208_214.out; have hcz23_0 : w20.cell? ⟨gb214, 0, none⟩ = some (.int .u32 0) := (blk_cell BK214.out 0).trans rfl; have hcz23_1 : w20.cell? ⟨gb214, 1, none⟩ = some (.int .u8 0) := (blk_cell BK214.out 1).trans rfl; have hcz23_2 : w20.cell? ⟨gb214, 2, none⟩ = some (.int .i64 0) := (blk_cell BK214.out 2).trans rfl; have hcz23_3 : w20.cell? ⟨gb214, 3, none⟩ = some (.int .i64 0) := (blk_cell BK214.out 3).trans rfl; have hfz23_0 := blk_frozen BK214.out 0; have hfz23_1 := blk_frozen BK214.out 1; have hfz23_2 := blk_frozen BK214.out 2; have hfz23_3 := blk_frozen BK214.out 3) | ((with_reducible refine gate_callee (f := 16) rfl ?_); refine goesL_ (some 15) rfl rfl Tryd.func16 (by kernel_rfl) rfl #[.string (⟨#[49, 44, 50]⟩ : ByteArray)] rfl (by (try simp only [List.map_toArray, List.map_cons, List.map_nil]); first | done | rfl | (simp only [List.length_drop, List.length_take]; rfl)) ?_; (with_reducible refine (clock_ParseWeeks.calls k (⟨#[49, 44, 50]⟩ : ByteArray) t215 t216 _ A2.out).mono ?_); rintro e w24 ⟨rfl, hb⟩; refine ⟨_, rfl, ?_⟩; have n0_ := Aside0.mk (blk_below (g := gb207) (o := .cells #[.int .i64 3, .int .i64 5, .int .i64 40] 23 (0, 0)) (by (with_reducible repeat (first | refine blk_drewN ?_ _ | refine blk_drew ?_ | refine blk_alloc ?_ _)); refine blk_far ?_ NB207_214.out _; (with_reducible repeat (first | refine blk_drewN ?_ _ | refine blk_drew ?_ | refine blk_alloc ?_ _)); refine blk_far ?_ NB207_214.out _; (with_reducible repeat (first | refine blk_drewN ?_ _ | refine blk_drew ?_ | refine blk_alloc ?_ _)); refine blk_far ?_ NB207_214.out _; (with_reducible repeat (first | refine blk_drewN ?_ _ | refine blk_drew ?_ | refine blk_alloc ?_ _)); refine blk_far ?_ NB207_214.out _; (with_reducible repeat (first | refine blk_drewN ?_ _ | refine blk_drew ?_ | refine blk_alloc ?_ _)); exact BK207.out) hb); have n1_ := Aside0.mk (blk_below (g := gb208) (o := .cells #[.int .u32 7, .int .u8 5, .int .i64 16, .int .i64 4] 26 (0, 0)) (by (with_reducible repeat (first | refine blk_drewN ?_ _ | refine blk_drew ?_ | refine blk_alloc ?_ _)); refine blk_far ?_ NB208_214.out _; (with_reducible repeat (first | refine blk_drewN ?_ _ | refine blk_drew ?_ | refine blk_alloc ?_ _)); refine blk_far ?_ NB208_214.out _; (with_reducible repeat (first | refine blk_drewN ?_ _ | refine blk_drew ?_ | refine blk_alloc ?_ _)); refine blk_far ?_ NB208_214.out _; (with_reducible repeat (first | refine blk_drewN ?_ _ | refine blk_drew ?_ | refine blk_alloc ?_ _)); refine blk_far ?_ NB208_214.out _; (with_reducible repeat (first | refine blk_drewN ?_ _ | refine blk_drew ?_ | refine blk_alloc ?_ _)); exact BK208.out) hb); have n2_ := Aside0.mk (blk_below (g := gb214) (o := .cells #[.int .u32 t209, .int .u8 t210, .int .i64 t211, .int .i64 t212] 26 (0, 0)) (by (with_reducible repeat (first | refine blk_drewN ?_ _ | refine blk_drew ?_ | refine blk_alloc ?_ _)); refine blk_put (cs := #[.int .u32 t209, .int .u8 t210, .int .i64 t211, .int .i64 0]) ?_ 3 _ rfl; (with_reducible repeat (first | refine blk_drewN ?_ _ | refine blk_drew ?_ | refine blk_alloc ?_ _)); refine blk_put (cs := #[.int .u32 t209, .int .u8 t210, .int .i64 0, .int .i64 0]) ?_ 2 _ rfl; (with_reducible repeat (first | refine blk_drewN ?_ _ | refine blk_drew ?_ | refine blk_alloc ?_ _)); refine blk_put (cs := #[.int .u32 t209, .int .u8 0, .int .i64 0, .int .i64 0]) ?_ 1 _ rfl; (with_reducible repeat (first | refine blk_drewN ?_ _ | refine blk_drew ?_ | refine blk_alloc ?_ _)); refine blk_put (cs := #[.int .u32 0, .int .u8 0, .int .i64 0, .int .i64 0]) ?_ 0 _ rfl; (with_reducible repeat (first | refine blk_drewN ?_ _ | refine blk_drew ?_ | refine blk_alloc ?_ _)); exact BK214.out) hb); have n3_ := Aside0.mk (below_step (by repeat (first | (with_reducible first | exact HB.out | apply below_alloc | apply pw_below_drewN | apply below_drew1 | refine below_set ?_ GE207.out | refine below_set ?_ GE208.out | refine below_set ?_ GE214.out) | exact HB.out)) hb); clear BK207; clear BK208; clear BK214; clear HB; have BK207 := n0_; have BK208 := n1_; have BK214 := n2_; have HB := n3_; clear n0_ n1_ n2_ n3_; (try clear hb); (try clear hb2); (try clear hk); (try clear hi); have hcz25_0 : w24.cell? ⟨gb207, 0, none⟩ = some (.int .i64 3) := (blk_cell BK207.out 0).trans rfl; have hcz25_1 : w24.cell? ⟨gb207, 1, none⟩ = some (.int .i64 5) := (blk_cell BK207.out 1).trans rfl; have hcz25_2 : w24.cell? ⟨gb207, 2, none⟩ = some (.int .i64 40) := (blk_cell BK207.out 2).trans rfl; have hfz25_0 := blk_frozen BK207.out 0; have hfz25_1 := blk_frozen BK207.out 1; have hfz25_2 := blk_frozen BK207.out 2; have hcz26_0 : w24.cell? ⟨gb208, 0, none⟩ = some (.int .u32 7) := (blk_cell BK208.out 0).trans rfl; have hcz26_1 : w24.cell? ⟨gb208, 1, none⟩ = some (.int .u8 5) := (blk_cell BK208.out 1).trans rfl; have hcz26_2 : w24.cell? ⟨gb208, 2, none⟩ = some (.int .i64 16) := (blk_cell BK208.out 2).trans rfl; have hcz26_3 : w24.cell? ⟨gb208, 3, none⟩ = some (.int .i64 4) := (blk_cell BK208.out 3).trans rfl; have hfz26_0 := blk_frozen BK208.out 0; have hfz26_1 := blk_frozen BK208.out 1; have hfz26_2 := blk_frozen BK208.out 2; have hfz26_3 := blk_frozen BK208.out 3) | ((with_reducible refine gate_callee (f := 10) rfl ?_); refine goesL_ (some 20) rfl rfl Tryd.func10 (by kernel_rfl) rfl #[.agg #[.int .i64 3, .int .i64 5, .int .i64 40], .agg #[.int .u32 7, .int .u8 5, .int .i64 16, .int .i64 4]] rfl (by (try simp only [List.map_toArray, List.map_cons, List.map_nil]); first | done | rfl | (simp only [List.length_drop, List.length_take]; rfl)) ?_; (with_reducible refine (clock_Print.calls k 3 5 40 7 5 16 4 t217 _ A3.out).mono ?_); rintro e w27 ⟨rfl, hb⟩; refine ⟨_, rfl, ?_⟩; have n0_ := Aside0.mk (blk_below (g := gb207) (o := .cells #[.int .i64 3, .int .i64 5, .int .i64 40] 23 (0, 0)) (by (with_reducible repeat (first | refine blk_drewN ?_ _ | refine blk_drew ?_ | refine blk_alloc ?_ _)); exact BK207.out) hb); have n1_ := Aside0.mk (blk_below (g := gb208) (o := .cells #[.int .u32 7, .int .u8 5, .int .i64 16, .int .i64 4] 26 (0, 0)) (by (with_reducible repeat (first | refine blk_drewN ?_ _ | refine blk_drew ?_ | refine blk_alloc ?_ _)); exact BK208.out) hb); have n2_ := Aside0.mk (blk_below (g := gb214) (o := .cells #[.int .u32 t209, .int .u8 t210, .int .i64 t211, .int .i64 t212] 26 (0, 0)) (by (with_reducible repeat (first | refine blk_drewN ?_ _ | refine blk_drew ?_ | refine blk_alloc ?_ _)); exact BK214.out) hb); have n3_ := Aside0.mk (below_step (by repeat (first | (with_reducible first | exact HB.out | apply below_alloc | apply pw_below_drewN | apply below_drew1 | refine below_set ?_ GE207.out | refine below_set ?_ GE208.out | refine below_set ?_ GE214.out) | exact HB.out)) hb); clear BK207; clear BK208; clear BK214; clear HB; have BK207 := n0_; have BK208 := n1_; have BK214 := n2_; have HB := n3_; clear n0_ n1_ n2_ n3_; (try clear hb); (try clear hb2); (try clear hk); (try clear hi); have hcz28_0 : w27.cell? ⟨gb214, 0, none⟩ = some (.int .u32 t209) := (blk_cell BK214.out 0).trans rfl; have hcz28_1 : w27.cell? ⟨gb214, 1, none⟩ = some (.int .u8 t210) := (blk_cell BK214.out 1).trans rfl; have hcz28_2 : w27.cell? ⟨gb214, 2, none⟩ = some (.int .i64 t211) := (blk_cell BK214.out 2).trans rfl; have hcz28_3 : w27.cell? ⟨gb214, 3, none⟩ = some (.int .i64 t212) := (blk_cell BK214.out 3).trans rfl; have hfz28_0 := blk_frozen BK214.out 0; have hfz28_1 := blk_frozen BK214.out 1; have hfz28_2 := blk_frozen BK214.out 2; have hfz28_3 := blk_frozen BK214.out 3; have hcz29_0 : w27.cell? ⟨gb208, 0, none⟩ = some (.int .u32 7) := (blk_cell BK208.out 0).trans rfl; have hcz29_1 : w27.cell? ⟨gb208, 1, none⟩ = some (.int .u8 5) := (blk_cell BK208.out 1).trans rfl; have hcz29_2 : w27.cell? ⟨gb208, 2, none⟩ = some (.int .i64 16) := (blk_cell BK208.out 2).trans rfl; have hcz29_3 : w27.cell? ⟨gb208, 3, none⟩ = some (.int .i64 4) := (blk_cell BK208.out 3).trans rfl; have hfz29_0 := blk_frozen BK208.out 0; have hfz29_1 := blk_frozen BK208.out 1; have hfz29_2 := blk_frozen BK208.out 2; have hfz29_3 := blk_frozen BK208.out 3; have hcz30_0 : w27.cell? ⟨gb207, 0, none⟩ = some (.int .i64 3) := (blk_cell BK207.out 0).trans rfl; have hcz30_1 : w27.cell? ⟨gb207, 1, none⟩ = some (.int .i64 5) := (blk_cell BK207.out 1).trans rfl; have hcz30_2 : w27.cell? ⟨gb207, 2, none⟩ = some (.int .i64 40) := (blk_cell BK207.out 2).trans rfl; have hfz30_0 := blk_frozen BK207.out 0; have hfz30_1 := blk_frozen BK207.out 1; have hfz30_2 := blk_frozen BK207.out 2) | (go_at_call 14; (with_reducible refine (clock_Moment.calls 3 5 40 41 t218 _ A8.out).mono ?_); rintro e w31 ⟨rfl, hb⟩; have n0_ := Aside0.mk (blk_below (g := gb207) (o := .cells #[.int .i64 3, .int .i64 5, .int .i64 40] 23 (0, 0)) (by (with_reducible repeat (first | refine blk_drewN ?_ _ | refine blk_drew ?_ | refine blk_alloc ?_ _)); exact BK207.out) hb); have n1_ := Aside0.mk (blk_below (g := gb208) (o := .cells #[.int .u32 7, .int .u8 5, .int .i64 16, .int .i64 4] 26 (0, 0)) (by (with_reducible repeat (first | refine blk_drewN ?_ _ | refine blk_drew ?_ | refine blk_alloc ?_ _)); exact BK208.out) hb); have n2_ := Aside0.mk (blk_below (g := gb214) (o := .cells #[.int .u32 t209, .int .u8 t210, .int .i64 t211, .int .i64 t212] 26 (0, 0)) (by (with_reducible repeat (first | refine blk_drewN ?_ _ | refine blk_drew ?_ | refine blk_alloc ?_ _)); exact BK214.out) hb); have n3_ := Aside0.mk (below_step (by repeat (first | (with_reducible first | exact HB.out | apply below_alloc | apply pw_below_drewN | apply below_drew1 | refine below_set ?_ GE207.out | refine below_set ?_ GE208.out | refine below_set ?_ GE214.out) | exact HB.out)) hb); clear BK207; clear BK208; clear BK214; clear HB; have BK207 := n0_; have BK208 := n1_; have BK214 := n2_; have HB := n3_; clear n0_ n1_ n2_ n3_; (try clear hb); (try clear hb2); (try clear hk); (try clear hi)) | (go_at_call 22; (with_reducible refine (clock_Days.calls 3 t219 _ A10.out).mono ?_); rintro e w32 ⟨rfl, hb⟩; have n0_ := Aside0.mk (blk_below (g := gb207) (o := .cells #[.int .i64 3, .int .i64 5, .int .i64 40] 23 (0, 0)) (by (with_reducible repeat (first | refine blk_drewN ?_ _ | refine blk_drew ?_ | refine blk_alloc ?_ _)); exact BK207.out) hb); have n1_ := Aside0.mk (blk_below (g := gb208) (o := .cells #[.int .u32 7, .int .u8 5, .int .i64 16, .int .i64 4] 26 (0, 0)) (by (with_reducible repeat (first | refine blk_drewN ?_ _ | refine blk_drew ?_ | refine blk_alloc ?_ _)); exact BK208.out) hb); have n2_ := Aside0.mk (blk_below (g := gb214) (o := .cells #[.int .u32 t209, .int .u8 t210, .int .i64 t211, .int .i64 t212] 26 (0, 0)) (by (with_reducible repeat (first | refine blk_drewN ?_ _ | refine blk_drew ?_ | refine blk_alloc ?_ _)); exact BK214.out) hb); have n3_ := Aside0.mk (below_step (by repeat (first | (with_reducible first | exact HB.out | apply below_alloc | apply pw_below_drewN | apply below_drew1 | refine below_set ?_ GE207.out | refine below_set ?_ GE208.out | refine below_set ?_ GE214.out) | exact HB.out)) hb); clear BK207; clear BK208; clear BK214; clear HB; have BK207 := n0_; have BK208 := n1_; have BK214 := n2_; have HB := n3_; clear n0_ n1_ n2_ n3_; (try clear hb); (try clear hb2); (try clear hk); (try clear hi)) | (go_at_call 18; (with_reducible refine (clock_Weeks.calls k 5 t220 _ A12.out).mono ?_); rintro e w33 ⟨rfl, hb⟩; have n0_ := Aside0.mk (blk_below (g := gb207) (o := .cells #[.int .i64 3, .int .i64 5, .int .i64 40] 23 (0, 0)) (by (with_reducible repeat (first | refine blk_drewN ?_ _ | refine blk_drew ?_ | refine blk_alloc ?_ _)); exact BK207.out) hb); have n1_ := Aside0.mk (blk_below (g := gb208) (o := .cells #[.int .u32 7, .int .u8 5, .int .i64 16, .int .i64 4] 26 (0, 0)) (by (with_reducible repeat (first | refine blk_drewN ?_ _ | refine blk_drew ?_ | refine blk_alloc ?_ _)); exact BK208.out) hb); have n2_ := Aside0.mk (blk_below (g := gb214) (o := .cells #[.int .u32 t209, .int .u8 t210, .int .i64 t211, .int .i64 t212] 26 (0, 0)) (by (with_reducible repeat (first | refine blk_drewN ?_ _ | refine blk_drew ?_ | refine blk_alloc ?_ _)); exact BK214.out) hb); have n3_ := Aside0.mk (below_step (by repeat (first | (with_reducible first | exact HB.out | apply below_alloc | apply pw_below_drewN | apply below_drew1 | refine below_set ?_ GE207.out | refine below_set ?_ GE208.out | refine below_set ?_ GE214.out) | exact HB.out)) hb); clear BK207; clear BK208; clear BK214; clear HB; have BK207 := n0_; have BK208 := n1_; have BK214 := n2_; have HB := n3_; clear n0_ n1_ n2_ n3_; (try clear hb); (try clear hb2); (try clear hk); (try clear hi)))
              go_ret
              exact ⟨by first | rfl | (simp [errW_none, errW_some] <;> rfl) | (simp [*, errW_none, errW_some] <;> rfl), by repeat (first | (with_reducible first | exact HB.out | apply below_alloc | apply pw_below_drewN | apply below_drew1 | refine below_set ?_ GE207.out | refine below_set ?_ GE208.out | refine below_set ?_ GE214.out) | exact HB.out)⟩
            · rw [if_neg c11] at H
              exact absurd H (by simp)
          · rw [if_neg c9] at H
            exact absurd H (by simp)
        · rw [if_neg c7] at H
          exact absurd H (by simp)
      · rw [if_neg c6] at H
        exact absurd H (by simp)
    · rw [if_neg c5] at H
      exact absurd H (by simp)
  · rw [if_neg c4] at H
    exact absurd H (by simp)
end Go.Proofs.YtnagecfpbkffpaaDoor.P
