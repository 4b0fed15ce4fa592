import Derived.Test.YtnnpolnpgghkgaaDoorPEv
import Derived.Test.YtnnpolnpgghkgaaDoorPx1
/-! The guard: few texts, none long. -/
namespace Go.Proofs.YtnnpolnpgghkgaaDoor.P
open Go.RowKit Go.Proofs.YtnnpolnpgghkgaaDoorW.PrintWords
set_option linter.unusedVariables false
theorem few_loop (l : List ByteArray) (hl : l.length ≤ 9000000000000) : ∀ (d i : Nat), 40 - i ≤ d → (∀ j, j < i → ∀ h : j < l.length, (l[j]'h).size ≤ 300) →
    ∃ b, Ev (fun k => horariumlaw02_few.l0 k l i) b ∧ (b = true → l.length ≤ 30 ∧ ∀ s ∈ l, s.size ≤ 300) := by
  have hend : ∀ i : Nat, (∀ j, j < i → ∀ h : j < l.length, (l[j]'h).size ≤ 300) → (l.length ≤ i ∨ 40 ≤ i) → ∃ b, Ev (fun k => horariumlaw02_few.l0 k l i) b ∧ (b = true → l.length ≤ 30 ∧ ∀ s ∈ l, s.size ≤ 300) := by
    intro i hs hi
    refine ⟨decide ((l.length : Int) ≤ 30), ?_, fun hb => ?_⟩
    · refine Ev.step (fun k => horariumlaw02_few.l0.eq_2 ..) ?_
      by_cases h1 : (i : Int) < l.length
      · refine Ev.ifp h1 (Ev.step (fun k => horariumlaw02_few.j1.eq_2 ..) ?_)
        exact Ev.ifn (by simp; omega) (Ev.now _)
      · refine Ev.ifn h1 (Ev.step (fun k => horariumlaw02_few.j1.eq_2 ..) ?_)
        exact Ev.ifn (by simp) (Ev.now _)
    · have h30 : (l.length : Int) ≤ 30 := of_decide_eq_true hb
      refine ⟨by omega, fun s hm => ?_⟩
      obtain ⟨j, hj, rfl⟩ := List.mem_iff_getElem.1 hm
      exact hs j (by omega) hj
  intro d
  induction d with
  | zero => intro i hd hs; exact hend i hs (.inr (by omega))
  | succ d ih =>
    intro i hd hs
    by_cases h1 : i < l.length ∧ i < 40
    · have hget : rdOf ByteArray.empty l (i : Int) = l[i] := by simp [rdOf, h1.1]
      by_cases hz : ((l[i]'h1.1).size : Int) > 300
      · refine ⟨false, ?_, fun h => by cases h⟩
        refine Ev.step (fun k => horariumlaw02_few.l0.eq_2 ..) (Ev.ifp (by omega) ?_)
        refine Ev.step (fun k => horariumlaw02_few.j1.eq_2 ..) (Ev.ifp (by simp; omega) (Ev.ifp (by omega) (Ev.ifp (by omega) ?_)))
        rw [hget]
        exact Ev.ifp hz (Ev.now _)
      · obtain ⟨b, hb, hp⟩ := ih (i + 1) (by omega) (by
          intro j hj h
          by_cases he : j = i
          · subst he; omega
          · exact hs j (by omega) h)
        refine ⟨b, ?_, hp⟩
        refine Ev.step (fun k => horariumlaw02_few.l0.eq_2 ..) (Ev.ifp (by omega) ?_)
        refine Ev.step (fun k => horariumlaw02_few.j1.eq_2 ..) (Ev.ifp (by simp; omega) (Ev.ifp (by omega) (Ev.ifp (by omega) ?_)))
        rw [hget]
        refine Ev.ifn hz ?_
        rw [show wrap64 ((i : Int) + 1) = ((i + 1 : Nat) : Int) by rw [w64_in (by omega) (by omega)]; rfl]
        exact hb
    · exact hend i hs (by omega)
theorem few_ev (l : List ByteArray) (hl : l.length * 16 ≤ 140737488351232) : ∃ b, Ev (fun k => horariumlaw02_few.f k l) b ∧ (b = true → l.length ≤ 30 ∧ ∀ s ∈ l, s.size ≤ 300) :=
  few_loop l (by omega) 40 0 (by omega) (fun j h => absurd h (Nat.not_lt_zero _))
end Go.Proofs.YtnnpolnpgghkgaaDoor.P
