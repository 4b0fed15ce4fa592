import Derived.Test.YtnagecfpbkffpaaDoorPNum
import Derived.Test.YtnagecfpbkffpaaDoorPx8
import Derived.Test.YtnagecfpbkffpaaDoorPx11
namespace Go.Proofs.YtnagecfpbkffpaaDoor.P
open Go.RowKit Go.Proofs.YtnagecfpbkffpaaDoorW.PrintWords
set_option linter.unusedVariables false
set_option linter.unusedSimpArgs false
def pwB (s : ByteArray) : Int × Int := Q.pwN (bytesOf s)
theorem shaped_loop (s : ByteArray) (hs : s.size ≤ 140737488351232) : ∀ (d : Nat) (i : Int), 0 ≤ i → i ≤ s.size → (s.size : Int) - i ≤ d →
    Ev (fun k => digits_shaped.l0 k s s.size i) (((bytesOf s).drop i.toNat).all Q.digitI) := by
  intro d
  induction d with
  | zero =>
    intro i h0 h1 hd
    refine Ev.step (fun k => digits_shaped.l0.eq_2 ..) (Ev.ifn (by omega) (Ev.eq (Ev.now _) ?_))
    rw [List.drop_eq_nil_of_le (by rw [bytesOf_length]; omega)]
    rfl
  | succ d ih =>
    intro i h0 h1 hd
    by_cases hi : i < s.size
    · refine Ev.step (fun k => digits_shaped.l0.eq_2 ..) (Ev.ifp hi (Ev.ifp h0 (Ev.ifp hi ?_)))
      rw [bytes_drop s i h0 hi, List.all_cons]
      by_cases ha : bt s i < 48
      · refine Ev.ifp ha (Ev.eq (Ev.now _) ?_)
        rw [show Q.digitI (bt s i) = false from decide_eq_false (by omega)]; rfl
      · refine Ev.ifn ha ?_
        by_cases hb : bt s i > 57
        · refine Ev.ifp hb (Ev.eq (Ev.now _) ?_)
          rw [show Q.digitI (bt s i) = false from decide_eq_false (by omega)]; rfl
        · refine Ev.ifn hb ?_
          rw [show Q.digitI (bt s i) = true from decide_eq_true (by omega), Bool.true_and, w64_in (by omega) (by omega)]
          exact ih (i + 1) (by omega) (by omega) (by omega)
    · refine Ev.step (fun k => digits_shaped.l0.eq_2 ..) (Ev.ifn hi (Ev.eq (Ev.now _) ?_))
      rw [List.drop_eq_nil_of_le (by rw [bytesOf_length]; omega)]
      rfl
theorem bt_zero (s : ByteArray) : bt s 0 = (bytesOf s).getD 0 0 := bt_get s 0
theorem shaped_ev (s : ByteArray) (hs : s.size ≤ 140737488351232) : Ev (fun k => digits_shaped.f k s) (Q.shapedN (bytesOf s)) := by
  unfold digits_shaped.f Q.shapedN
  rw [bytesOf_length]
  have hl := shaped_loop s hs s.size 0 (by omega) (by omega) (by omega)
  simp only [Int.toNat_zero, List.drop_zero] at hl
  by_cases h0 : s.size = 0
  · refine Ev.ifp ((empty_bytes s).2 h0) (Ev.step (fun k => digits_shaped.j0.eq_2 ..) (Ev.ifp rfl (Ev.eq (Ev.now _) ?_)))
    rw [h0]
    simp
  · refine Ev.ifn (fun h => h0 ((empty_bytes s).1 h)) (Ev.ifp (by omega) ?_)
    by_cases h48 : bt s 0 = 48
    · refine Ev.ifp h48 (Ev.step (fun k => digits_shaped.j0.eq_2 ..) ?_)
      rw [← bt_zero, h48]
      by_cases h1 : s.size > 1
      · refine Ev.ifp (decide_eq_true (by omega)) (Ev.eq (Ev.now _) ?_)
        rw [show decide (s.size = 1) = false from decide_eq_false (by omega)]
        simp
      · refine Ev.ifn (by simp only [decide_eq_true_eq]; omega) (Ev.eq hl ?_)
        rw [show decide (s.size = 1) = true from decide_eq_true (by omega)]
        simp
    · refine Ev.ifn h48 (Ev.step (fun k => digits_shaped.j0.eq_2 ..) (Ev.ifn (by decide) (Ev.eq hl ?_)))
      rw [← bt_zero, show decide (bt s 0 ≠ 48) = true from decide_eq_true h48]
      by_cases h1 : s.size > 1
      · rw [show decide (s.size > 1) = true from decide_eq_true h1]; simp
      · rw [show decide (s.size = 1) = true from decide_eq_true (by omega)]; simp
theorem pw_loop (s : ByteArray) (hs : s.size ≤ 140737488351232) (hd : (bytesOf s).all Q.digitI = true) : ∀ (d : Nat) (i : Int) (a : Nat), 0 ≤ i → i ≤ s.size → (s.size : Int) - i ≤ d → a < 18446744073709551616 →
    Ev (fun k => digits_ParseWord.l0 k s (a : Int) s.size i) (if Q.valA a ((bytesOf s).drop i.toNat) < 18446744073709551616 then ((Q.valA a ((bytesOf s).drop i.toNat) : Nat), 0) else (0, 6)) := by
  intro d
  induction d with
  | zero =>
    intro i a h0 h1 hd ha
    refine Ev.step (fun k => digits_ParseWord.l0.eq_2 ..) (Ev.ifn (by omega) (Ev.eq (Ev.now _) ?_))
    rw [List.drop_eq_nil_of_le (by rw [bytesOf_length]; omega)]
    exact (if_pos (show Q.valA a [] < 18446744073709551616 from ha)).symm
  | succ d ih =>
    intro i a h0 h1 hd2 ha
    by_cases hi : i < s.size
    · refine Ev.step (fun k => digits_ParseWord.l0.eq_2 ..) (Ev.ifp hi (Ev.ifp h0 (Ev.ifp hi ?_)))
      have hm : Q.digitI (bt s i) = true := by
        refine List.all_eq_true.1 hd _ ?_
        have h5 : bt s i ∈ (bytesOf s).drop i.toNat := by rw [bytes_drop s i h0 hi]; exact List.mem_cons_self
        exact List.mem_of_mem_drop h5
      simp only [Q.digitI, decide_eq_true_eq] at hm
      rw [bytes_drop s i h0 hi, Q.valA]
      have e : (bt s i - 48) % 256 = (((bt s i - 48).toNat : Nat) : Int) := by omega
      rw [e]
      generalize hc : (bt s i - 48).toNat = c
      have hc9 : c ≤ 9 := by omega
      by_cases ho : (a : Int) > (18446744073709551615 - (c : Int)) / 10
      · refine Ev.ifp ho (Ev.eq (Ev.now _) ?_)
        have h6 := Q.valA_mono ((bytesOf s).drop (i + 1).toNat) (10 * a + c)
        rw [if_neg (by omega)]
      · refine Ev.ifn ho ?_
        have h7 : 10 * a + c < 18446744073709551616 := by omega
        have e2 : IntKind.u64.wrap (IntKind.u64.wrap (10 * (a : Int)) + (c : Int)) = ((10 * a + c : Nat) : Int) := by
          rw [u64_in2 (x := 10 * (a : Int)) (by omega) (by omega), u64_in2 (by omega) (by omega)]
          omega
        rw [e2, w64_in (by omega) (by omega)]
        exact ih (i + 1) (10 * a + c) (by omega) (by omega) (by omega) h7
    · refine Ev.step (fun k => digits_ParseWord.l0.eq_2 ..) (Ev.ifn hi (Ev.eq (Ev.now _) ?_))
      rw [List.drop_eq_nil_of_le (by rw [bytesOf_length]; omega)]
      exact (if_pos (show Q.valA a [] < 18446744073709551616 from ha)).symm
theorem pw_ev (s : ByteArray) (hs : s.size ≤ 140737488351232) : Ev (fun k => digits_ParseWord.f k s) (pwB s) := by
  unfold digits_ParseWord.f pwB Q.pwN
  refine Ev.call (shaped_ev s hs) ?_
  by_cases h : Q.shapedN (bytesOf s) = true
  · rw [h]
    refine Ev.ifp rfl ?_
    have h2 := pw_loop s hs (Q.shaped_of _ h).1 s.size 0 0 (by omega) (by omega) (by omega) (by omega)
    simp only [Int.toNat_zero, List.drop_zero] at h2
    rw [if_pos rfl]
    exact h2
  · refine Ev.ifn h (Ev.eq (Ev.now _) ?_)
    rw [if_neg h]
end Go.Proofs.YtnagecfpbkffpaaDoor.P
