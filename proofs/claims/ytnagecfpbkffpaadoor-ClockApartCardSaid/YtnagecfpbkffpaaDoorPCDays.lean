import Derived.Test.YtnagecfpbkffpaaDoorPBase
import Derived.Test.YtnagecfpbkffpaaDoorPDays
import Derived.Test.YtnagecfpbkffpaaDoorPx9
import Derived.Test.YtnagecfpbkffpaaDoorPx12
namespace Go.Proofs.YtnagecfpbkffpaaDoor.P
open Go.RowKit Go.Proofs.YtnagecfpbkffpaaDoorW.PrintWords
set_option linter.unusedVariables false
set_option linter.unusedSimpArgs false
theorem Ev.one {α : Type} {f : Nat → Option α} {a b : α} (h : Ev f a) (k : Ev f b) : a = b := by
  obtain ⟨n, h⟩ := h
  obtain ⟨m, k⟩ := k
  have h1 := h (n + m) (by omega)
  have h2 := k (n + m) (by omega)
  exact Option.some.inj (h1.symm.trans h2)
theorem days_eq (d : Int) (h0 : 0 ≤ d) (h1 : d ≤ 255) : clock_Days.f d = some (strOfNums (daysL d 7)) := if_pos ⟨h0, h1⟩
theorem days_inj : ∀ d : Fin 128, ∀ e : Fin 128, daysL (d.1 : Int) 7 = daysL (e.1 : Int) 7 → d.1 = e.1 := by decide +kernel
theorem days_Bs : ∀ d : Fin 256, Q.Bs (daysL (d.1 : Int) 7) := by
  have h : ∀ d : Fin 256, (daysL (d.1 : Int) 7).all (fun c => decide (0 ≤ c ∧ c ≤ 255)) = true := by decide +kernel
  intro d c hc
  have := List.all_eq_true.1 (h d) c hc
  simp only [decide_eq_true_eq] at this
  omega
def findD : Nat → Nat → List Int → Int × Int
  | 0, _, _ => (0, 3)
  | n + 1, d, l => if daysL (d : Int) 7 = l then ((d : Int), 0) else findD n (d + 1) l
def pdB (s : ByteArray) : Int × Int := findD 127 1 (bytesOf s)
theorem findD_or (n : Nat) : ∀ d l, (findD n d l = (0, 3) ∧ ∀ e, d ≤ e → e < d + n → daysL (e : Int) 7 ≠ l) ∨ ∃ e : Nat, d ≤ e ∧ e < d + n ∧ findD n d l = ((e : Int), 0) ∧ daysL (e : Int) 7 = l := by
  induction n with
  | zero => intro d l; exact .inl ⟨rfl, fun e h1 h2 => by omega⟩
  | succ n ih =>
    intro d l
    rw [findD]
    by_cases h : daysL (d : Int) 7 = l
    · rw [if_pos h]; exact .inr ⟨d, Nat.le_refl _, by omega, rfl, h⟩
    · rw [if_neg h]
      rcases ih (d + 1) l with ⟨h1, h2⟩ | ⟨e, h1, h2, h3⟩
      · refine .inl ⟨h1, fun e h3 h4 => ?_⟩
        rcases Nat.eq_or_lt_of_le h3 with rfl | h5
        · exact h
        · exact h2 e h5 (by omega)
      · exact .inr ⟨e, by omega, by omega, h3⟩
theorem pdB_or (s : ByteArray) : (pdB s = (0, 3) ∧ ∀ e : Nat, 1 ≤ e → e < 128 → daysL (e : Int) 7 ≠ bytesOf s) ∨ ∃ e : Nat, 1 ≤ e ∧ e < 128 ∧ pdB s = ((e : Int), 0) ∧ daysL (e : Int) 7 = bytesOf s := findD_or 127 1 (bytesOf s)
theorem pdB_hit (s : ByteArray) (d : Nat) (h0 : 1 ≤ d) (h1 : d < 128) (h : bytesOf s = daysL (d : Int) 7) : pdB s = ((d : Int), 0) := by
  rcases pdB_or s with ⟨_, h2⟩ | ⟨e, h2, h3, h4, h5⟩
  · exact absurd h.symm (h2 d h0 h1)
  · have := days_inj ⟨d, h1⟩ ⟨e, h3⟩ (h.symm.trans h5.symm)
    rw [h4]
    simp only at this
    rw [this]
end Go.Proofs.YtnagecfpbkffpaaDoor.P
