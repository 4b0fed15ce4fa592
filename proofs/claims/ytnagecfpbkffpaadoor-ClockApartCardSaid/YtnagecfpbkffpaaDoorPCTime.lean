import Derived.Test.YtnagecfpbkffpaaDoorPCRight
import Derived.Test.YtnagecfpbkffpaaDoorPNum
import Derived.Test.YtnagecfpbkffpaaDoorPx8
import Derived.Test.YtnagecfpbkffpaaDoorPx11
import Derived.Test.YtnagecfpbkffpaaDoorQWeeks
import Derived.Test.YtnagecfpbkffpaaDoorPBase
import Derived.Test.YtnagecfpbkffpaaDoorPx7
import Derived.Laws.BitsAllLaws
import Derived.Test.YtnagecfpbkffpaaDoorPx12
import Derived.Test.YtnagecfpbkffpaaDoorPCDays
namespace Go.Proofs.YtnagecfpbkffpaaDoor.Q
open Go.Proofs.YtnagecfpbkffpaaDoor.P Go.Proofs.YtnagecfpbkffpaaDoorW.PrintWords
set_option linter.unusedVariables false
set_option linter.unusedSimpArgs false
def timeL (w d s l : Int) : List Int := joinN 32 [weeksL w.toNat, daysL d 7, joinN 43 [dec s.toNat, dec l.toNat]]
def slotsN (p : List Int) : Int × Int × Int :=
  match piecesA 43 [] p with
  | [x, y] => if (pwN x).2 = 3 ∨ (pwN y).2 = 3 then (0, 0, 3) else if (pwN x).2 = 0 ∧ (pwN y).2 = 0 ∧ (pwN x).1 ≤ 1000 ∧ (pwN y).1 ≤ 1000 then ((pwN x).1, (pwN y).1, 0) else (0, 0, 6)
  | _ => (0, 0, 3)
def timeN (a b c : Int) (e f : Int × Int) (h : Int × Int × Int) : Int × Int × Int × Int × Int :=
  if e.2 = 3 ∨ f.2 = 3 ∨ h.2.2 = 3 then (0, 0, 0, 0, 3) else if e.2 = 0 ∧ h.2.2 = 0 ∧ rightB a b c e.1 f.1 h.1 h.2.1 = true then (e.1, f.1, h.1, h.2.1, 0) else (0, 0, 0, 0, 6)
def parseN (a b c : Int) (p : List Int) : Int × Int × Int × Int × Int :=
  if gridB a b c = true then
    match piecesA 32 [] p with
    | [x, y, z] => timeN a b c (parseWN x) (findD 127 1 y) (slotsN z)
    | _ => (0, 0, 0, 0, 3)
  else (0, 0, 0, 0, 10)
theorem joinN_mem (c : Int) : ∀ (ps : List (List Int)) (x : Int), x ∈ joinN c ps → x = c ∨ ∃ p ∈ ps, x ∈ p
  | [], x, h => by cases h
  | [p], x, h => .inr ⟨p, by simp, h⟩
  | p :: q :: ps, x, h => by
    rw [joinN] at h
    rcases List.mem_append.1 h with h | h
    · exact .inr ⟨p, by simp, h⟩
    · rcases List.mem_cons.1 h with h | h
      · exact .inl h
      · rcases joinN_mem c (q :: ps) x h with h | ⟨p', h1, h2⟩
        · exact .inl h
        · exact .inr ⟨p', by simp [h1], h2⟩
theorem weeks_no_blank (w : Nat) : (32 : Int) ∉ weeksL w := by
  intro h
  rcases joinN_mem 44 _ _ h with h | ⟨p, h1, h2⟩
  · omega
  · obtain ⟨r, _, rfl⟩ := List.mem_map.1 h1
    have := runT_mem r 32 h2
    omega
theorem days_no_blank : ∀ d : Fin 256, (32 : Int) ∉ daysL (d.1 : Int) 7 := by decide +kernel
theorem dec_free (n : Nat) (c : Int) (hc : ¬ (48 ≤ c ∧ c ≤ 57)) : c ∉ dec n := fun h => hc (dec_digit n c h)
theorem slot_free (s l : Nat) : (32 : Int) ∉ joinN 43 [dec s, dec l] := by
  intro h
  rcases joinN_mem 43 _ _ h with h | ⟨p, h1, h2⟩
  · omega
  · simp only [List.mem_cons, List.not_mem_nil, or_false] at h1
    rcases h1 with rfl | rfl
    · exact dec_free s 32 (by omega) h2
    · exact dec_free l 32 (by omega) h2
theorem time_pieces (w d s l : Int) (hd0 : 0 ≤ d) (hd1 : d ≤ 255) : piecesA 32 [] (timeL w d s l) = [weeksL w.toNat, daysL d 7, joinN 43 [dec s.toNat, dec l.toNat]] := by
  refine pieces_join 32 _ (by simp) ?_
  intro p hp
  simp only [List.mem_cons, List.not_mem_nil, or_false] at hp
  rcases hp with rfl | rfl | rfl
  · exact weeks_no_blank _
  · have h := days_no_blank ⟨d.toNat, by omega⟩
    rwa [show (((⟨d.toNat, by omega⟩ : Fin 256).1 : Nat) : Int) = d by show ((d.toNat : Nat) : Int) = d; omega] at h
  · exact slot_free _ _
theorem pw_dec97 : ∀ n : Fin 97, pwN (dec n.1) = ((n.1 : Int), 0) := by decide +kernel
theorem slots_of (s l : Int) (hs0 : 0 ≤ s) (hs1 : s ≤ 96) (hl0 : 0 ≤ l) (hl1 : l ≤ 96) : slotsN (joinN 43 [dec s.toNat, dec l.toNat]) = (s, l, 0) := by
  unfold slotsN
  rw [pieces_join 43 _ (by simp) (by
    intro p hp
    simp only [List.mem_cons, List.not_mem_nil, or_false] at hp
    rcases hp with rfl | rfl
    · exact dec_free _ 43 (by omega)
    · exact dec_free _ 43 (by omega))]
  have h1 := pw_dec97 ⟨s.toNat, by omega⟩
  have h2 := pw_dec97 ⟨l.toNat, by omega⟩
  simp only at h1 h2 ⊢
  rw [h1, h2]
  simp only
  rw [if_neg (by omega), if_pos (by refine ⟨trivial, trivial, ?_, ?_⟩ <;> omega), show ((s.toNat : Nat) : Int) = s by omega, show ((l.toNat : Nat) : Int) = l by omega]
theorem right_bounds {a b c w d s l : Int} (h : rightB a b c w d s l = true) : gridB a b c = true ∧ 0 ≤ s ∧ s ≤ 96 ∧ 1 ≤ l ∧ l ≤ 96 ∧ w ≠ 0 ∧ w < 1048576 ∧ d ≠ 0 ∧ d < 128 := by
  unfold rightB at h
  rw [Bool.and_eq_true, decide_eq_true_eq] at h
  obtain ⟨hg, h1, h2, h3, h4, h5, h6, h7⟩ := h
  have hg2 := hg
  simp only [gridB, decide_eq_true_eq] at hg2
  have p1 : (2 : Nat) ^ a.toNat ≤ 2 ^ 20 := Nat.pow_le_pow_right (by decide) (by omega)
  have p2 : (2 : Nat) ^ b.toNat ≤ 2 ^ 7 := Nat.pow_le_pow_right (by decide) (by omega)
  rw [pow_cast] at h5 h7
  generalize (2 : Nat) ^ a.toNat = u at *
  generalize (2 : Nat) ^ b.toNat = v at *
  exact ⟨hg, h1, by omega, h2, by omega, h4, by omega, h6, by omega⟩
theorem time_back {a b c w d s l : Int} (h : rightB a b c w d s l = true) (hw : 0 ≤ w) (hd : 0 ≤ d) : parseN a b c (timeL w d s l) = (w, d, s, l, 0) := by
  obtain ⟨hg, h1, h2, h3, h4, h5, h6, h7, h8⟩ := right_bounds h
  unfold parseN
  rw [if_pos hg, time_pieces w d s l hd (by omega)]
  simp only
  have e1 : parseWN (weeksL w.toNat) = (w, 0) := by
    rw [weeks_back, Nat.mod_eq_of_lt (by omega), if_neg (by omega), show ((w.toNat : Nat) : Int) = w by omega]
  have e2 : findD 127 1 (daysL d 7) = (d, 0) := by
    have hb : bytesOf (strOfNums (daysL d 7)) = daysL d 7 := by
      have := days_Bs ⟨d.toNat, by omega⟩
      rw [show (((⟨d.toNat, by omega⟩ : Fin 256).1 : Nat) : Int) = d by show ((d.toNat : Nat) : Int) = d; omega] at this
      exact bytes_str _ this
    have h9 := pdB_hit (strOfNums (daysL d 7)) d.toNat (by omega) (by omega) (by rw [hb, show ((d.toNat : Nat) : Int) = d by omega])
    unfold pdB at h9
    rw [hb, show ((d.toNat : Nat) : Int) = d by omega] at h9
    exact h9
  rw [e1, e2, slots_of s l h1 h2 (by omega) h4]
  unfold timeN
  simp only
  rw [if_neg (by omega), if_pos ⟨trivial, trivial, h⟩]
end Go.Proofs.YtnagecfpbkffpaaDoor.Q
