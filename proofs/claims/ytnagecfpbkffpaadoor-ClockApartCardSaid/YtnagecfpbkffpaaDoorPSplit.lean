import Derived.Test.YtnagecfpbkffpaaDoorPx0
import Derived.Test.YtnagecfpbkffpaaDoorPShelf
namespace Go.Proofs.YtnagecfpbkffpaaDoor.P
open Go.RowKit Go.Proofs.YtnagecfpbkffpaaDoorW.PrintWords Go.Proofs.YtnagecfpbkffpaaDoorW.PrintLast Go.Proofs.YtnagecfpbkffpaaDoorW.PrintMore
set_option linter.unusedVariables false
def strings_Count.f (a0 : ByteArray) (a1 : ByteArray) : Option Int := if a1.size = 1 then some (Lib.countByte a0.data.toList (bt a1 0).toNat.toUInt8 : Nat) else none
theorem one_byte' (a : ByteArray) (h : a.size = 1) : a = ⟨#[(bt a 0).toNat.toUInt8]⟩ := by
  obtain ⟨⟨l⟩⟩ := a
  match l, h with
  | [b], _ =>
    have : (bt ⟨⟨[b]⟩⟩ 0).toNat.toUInt8 = b := by
      unfold bt
      rw [dif_pos (show Int.toNat 0 < ByteArray.size ⟨⟨[b]⟩⟩ from Nat.zero_lt_one)]
      simp [ByteArray.getElem_eq_getElem_data]
    rw [this]
theorem strings_Count.calls (a0 : ByteArray) (a1 : ByteArray) (r : Int) (w : World) (h : strings_Count.f a0 a1 = some r) :
    Calls Tryd.prog 58 #[.string a0, .string a1] w fun e w' => e = .returned (.int .i64 r) ∧ Drawn0 w w' := by
  unfold strings_Count.f at h
  by_cases h1 : a1.size = 1
  · rw [if_pos h1] at h
    obtain rfl : ((Lib.countByte a0.data.toList (bt a1 0).toNat.toUInt8 : Nat) : Int) = r := by simpa using h
    have e1 := one_byte' a1 h1
    generalize (bt a1 0).toNat.toUInt8 = b at e1 ⊢
    subst e1
    refine (Tryd.strings_Count_one a0 b w).mono ?_
    rintro e w' ⟨rfl, rfl⟩
    exact ⟨rfl, Drawn0.refl _⟩
  · rw [if_neg h1] at h
    exact absurd h (by simp)
def strings_explode.f (_ : ByteArray) (_ : Int) : Option (List ByteArray) := none
theorem strings_explode.calls (a0 : ByteArray) (a1 : Int) (r : List ByteArray) (w : World) (h : strings_explode.f a0 a1 = some r) :
    Calls Tryd.prog 57 #[.string a0, .int .i64 a1] w fun e w' => ∃ v0_ : Value, e = .returned (v0_) ∧ Kd.R Kd.string 9 w' w.heap.size (fun _ => True) v0_ r ∧ Below w.heap.size w w' := by
  cases h
end Go.Proofs.YtnagecfpbkffpaaDoor.P
