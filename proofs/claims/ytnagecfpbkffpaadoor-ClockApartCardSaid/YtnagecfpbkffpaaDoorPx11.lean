import Derived.Test.YtnagecfpbkffpaaDoorPx0
namespace Go.Proofs.YtnagecfpbkffpaaDoor.P
open Go.RowKit Go.Proofs.YtnagecfpbkffpaaDoorW.PrintWords Go.Proofs.YtnagecfpbkffpaaDoorW.PrintLast Go.Proofs.YtnagecfpbkffpaaDoorW.PrintMore
attribute [local go_sem] max2_int min2_int max_two min_two max_three min_three max_four min_four   -- for this text's walks alone
set_option linter.unusedVariables false
set_option linter.unusedSimpArgs false
theorem horariumref01_ParseWord.gtr_turn : ∀ (a b : List UInt8), (!(Op.bytesLess a b || a == b)) = Op.bytesLess b a
  | [], [] => by decide
  | [], _ :: _ => by simp [Op.bytesLess]
  | _ :: _, [] => by simp [Op.bytesLess]
  | x :: a, y :: b => by
    have ih := horariumref01_ParseWord.gtr_turn a b
    rcases Nat.lt_trichotomy x.toNat y.toNat with h | h | h
    · have h1 : x < y := h
      have h2 : ¬ y < x := fun h' => Nat.lt_asymm h h'
      have h3 : ¬ y = x := fun e => by subst e; exact Nat.lt_irrefl _ h
      simp [Op.bytesLess, h1, h2, h3]
    · have e : x = y := UInt8.toNat_inj.1 h
      subst e
      have h1 : ¬ x < x := fun h' => Nat.lt_irrefl _ h'
      simpa [Op.bytesLess, h1] using ih
    · have h1 : y < x := h
      have h2 : ¬ x < y := fun h' => Nat.lt_asymm h h'
      have h3 : ¬ x = y := fun e => by subst e; exact Nat.lt_irrefl _ h
      simp [Op.bytesLess, h1, h2, h3]
def horariumref01_ParseWord.gt_0 (a : ByteArray) : Bool := Op.bytesLess [49, 56, 52, 52, 54, 55, 52, 52, 48, 55, 51, 55, 48, 57, 53, 53, 49, 54, 49, 53] a.toList
theorem horariumref01_ParseWord.gt_0_run (t : TypeId) (a : ByteArray) : Go.binOp .gtr t (.string a) (.string (⟨#[49, 56, 52, 52, 54, 55, 52, 52, 48, 55, 51, 55, 48, 57, 53, 53, 49, 54, 49, 53]⟩ : ByteArray)) = pure (.bool (horariumref01_ParseWord.gt_0 a)) := by
  rw [show Go.binOp .gtr t (.string a) (.string (⟨#[49, 56, 52, 52, 54, 55, 52, 52, 48, 55, 51, 55, 48, 57, 53, 53, 49, 54, 49, 53]⟩ : ByteArray)) = pure (.bool !(Op.bytesLess a.toList (⟨#[49, 56, 52, 52, 54, 55, 52, 52, 48, 55, 51, 55, 48, 57, 53, 53, 49, 54, 49, 53]⟩ : ByteArray).toList || a.toList == (⟨#[49, 56, 52, 52, 54, 55, 52, 52, 48, 55, 51, 55, 48, 57, 53, 53, 49, 54, 49, 53]⟩ : ByteArray).toList)) by simp [Go.binOp, Op.stringOp], horariumref01_ParseWord.gtr_turn, show (⟨#[49, 56, 52, 52, 54, 55, 52, 52, 48, 55, 51, 55, 48, 57, 53, 53, 49, 54, 49, 53]⟩ : ByteArray).toList = [49, 56, 52, 52, 54, 55, 52, 52, 48, 55, 51, 55, 48, 57, 53, 53, 49, 54, 49, 53] by decide +kernel]
  rfl
attribute [local go_sem] horariumref01_ParseWord.gt_0_run
end Go.Proofs.YtnagecfpbkffpaaDoor.P
