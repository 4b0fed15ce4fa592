import Derived.Test.YtnagecfpbkffpaaDoorPNum
import Derived.Test.YtnagecfpbkffpaaDoorPx8
import Derived.Test.YtnagecfpbkffpaaDoorPx11
namespace Go.Proofs.YtnagecfpbkffpaaDoor.P
open Go.RowKit Go.Proofs.YtnagecfpbkffpaaDoorW.PrintWords
set_option linter.unusedVariables false
set_option linter.unusedSimpArgs false
def pwB (s : ByteArray) : Int × Int := Q.pwN (bytesOf s)
theorem shaped_loop (s : ByteArray) (hs : s.size ≤ 140737488351232) : ∀ (d : Nat) (i : Int), 0 ≤ i → i ≤ s.size → (s.size : Int) - i ≤ d →
    Ev (fun k => digits_shaped.l0 k s s.size i) (((bytesOf s).drop i.toNat).all Q.digitI) := by
  intro d
  induction d with
  | zero =>
    intro i h0 h1 hd
    refine Ev.step (fun k => digits_shaped.l0.eq_2 ..) (Ev.ifn (by omega) (Ev.eq (Ev.now _) ?_))
    rw [List.drop_eq_nil_of_le (by rw [bytesOf_length]; omega)]
    rfl
  | succ d ih =>
    intro i h0 h1 hd
    by_cases hi : i < s.size
    · refine Ev.step (fun k => digits_shaped.l0.eq_2 ..) (Ev.ifp hi (Ev.ifp h0 (Ev.ifp hi ?_)))
      rw [bytes_drop s i h0 hi, List.all_cons]
      by_cases ha : bt s i < 48
      · refine Ev.ifp ha (Ev.eq (Ev.now _) ?_)
        rw [show Q.digitI (bt s i) = false from decide_eq_false (by omega)]; rfl
      · refine Ev.ifn ha ?_
        by_cases hb : bt s i > 57
        · refine Ev.ifp hb (Ev.eq (Ev.now _) ?_)
          rw [show Q.digitI (bt s i) = false from decide_eq_false (by omega)]; rfl
        · refine Ev.ifn hb ?_
          rw [show Q.digitI (bt s i) = true from decide_eq_true (by omega), Bool.true_and, w64_in (by omega) (by omega)]
          exact ih (i + 1) (by omega) (by omega) (by omega)
    · refine Ev.step (fun k => digits_shaped.l0.eq_2 ..) (Ev.ifn hi (Ev.eq (Ev.now _) ?_))
      rw [List.drop_eq_nil_of_le (by rw [bytesOf_length]; omega)]
      rfl
theorem bt_zero (s : ByteArray) : bt s 0 = (bytesOf s).getD 0 0 := bt_get s 0
theorem shaped_ev (s : ByteArray) (hs : s.size ≤ 140737488351232) : Ev (fun k => digits_shaped.f k s) (Q.shapedN (bytesOf s)) := by
  unfold digits_shaped.f Q.shapedN
  rw [bytesOf_length]
  have hl := shaped_loop s hs s.size 0 (by omega) (by omega) (by omega)
  simp only [Int.toNat_zero, List.drop_zero] at hl
  by_cases h0 : s.size = 0
  · refine Ev.ifp ((empty_bytes s).2 h0) (Ev.step (fun k => digits_shaped.j0.eq_2 ..) (Ev.ifp rfl (Ev.eq (Ev.now _) ?_)))
    rw [h0]
    simp
  · refine Ev.ifn (fun h => h0 ((empty_bytes s).1 h)) (Ev.ifp (by omega) ?_)
    by_cases h48 : bt s 0 = 48
    · refine Ev.ifp h48 (Ev.step (fun k => digits_shaped.j0.eq_2 ..) ?_)
      rw [← bt_zero, h48]
      by_cases h1 : s.size > 1
      · refine Ev.ifp (decide_eq_true (by omega)) (Ev.eq (Ev.now _) ?_)
        rw [show decide (s.size = 1) = false from decide_eq_false (by omega)]
        simp
      · refine Ev.ifn (by simp only [decide_eq_true_eq]; omega) (Ev.eq hl ?_)
        rw [show decide (s.size = 1) = true from decide_eq_true (by omega)]
        simp
    · refine Ev.ifn h48 (Ev.step (fun k => digits_shaped.j0.eq_2 ..) (Ev.ifn (by decide) (Ev.eq hl ?_)))
      rw [← bt_zero, show decide (bt s 0 ≠ 48) = true from decide_eq_true h48]
      by_cases h1 : s.size > 1
      · rw [show decide (s.size > 1) = true from decide_eq_true h1]; simp
      · rw [show decide (s.size = 1) = true from decide_eq_true (by omega)]; simp
theorem pw_loop (s : ByteArray) (hs : s.size ≤ 140737488351232) (hd : (bytesOf s).all Q.digitI = true) : ∀ (d : Nat) (i : Int) (a : Nat), 0 ≤ i → i ≤ s.size → (s.size : Int) - i ≤ d → a < 18446744073709551616 →
    Ev (fun k => digits_ParseWord.l0 k s (a : Int) s.size i) (if Q.valA a ((bytesOf s).drop i.toNat) < 18446744073709551616 then ((Q.valA a ((bytesOf s).drop i.toNat) : Nat), 0) else (0, 6)) := by
  intro d
  induction d with
  | zero =>
    intro i a h0 h1 hd ha
    refine Ev.step (fun k => digits_ParseWord.l0.eq_2 ..) (Ev.ifn (by omega) (Ev.eq (Ev.now _) ?_))
    rw [List.drop_eq_nil_of_le (by rw [bytesOf_length]; omega)]
    exact (if_pos (show Q.valA a [] < 18446744073709551616 from ha)).symm
  | succ d ih =>
    intro i a h0 h1 hd2 ha
    by_cases hi : i < s.size
    · refine Ev.step (fun k => digits_ParseWord.l0.eq_2 ..) (Ev.ifp hi (Ev.ifp h0 (Ev.ifp hi ?_)))
      have hm : Q.digitI (bt s i) = true := by
        refine List.all_eq_true.1 hd _ ?_
        have h5 : bt s i ∈ (bytesOf s).drop i.toNat := by rw [bytes_drop s i h0 hi]; exact List.mem_cons_self
        exact List.mem_of_mem_drop h5
      simp only [Q.digitI, decide_eq_true_eq] at hm
      rw [bytes_drop s i h0 hi, Q.valA]
      have e : (bt s i - 48) % 256 = (((bt s i - 48).toNat : Nat) : Int) := by omega
      rw [e]
      generalize hc : (bt s i - 48).toNat = c
      have hc9 : c ≤ 9 := by omega
      by_cases ho : (a : Int) > (18446744073709551615 - (c : Int)) / 10
      · refine Ev.ifp ho (Ev.eq (Ev.now _) ?_)
        have h6 := Q.valA_mono ((bytesOf s).drop (i + 1).toNat) (10 * a + c)
        rw [if_neg (by omega)]
      · refine Ev.ifn ho ?_
        have h7 : 10 * a + c < 18446744073709551616 := by omega
        have e2 : IntKind.u64.wrap (IntKind.u64.wrap (10 * (a : Int)) + (c : Int)) = ((10 * a + c : Nat) : Int) := by
          rw [u64_in2 (x := 10 * (a : Int)) (by omega) (by omega), u64_in2 (by omega) (by omega)]
          omega
        rw [e2, w64_in (by omega) (by omega)]
        exact ih (i + 1) (10 * a + c) (by omega) (by omega) (by omega) h7
    · refine Ev.step (fun k => digits_ParseWord.l0.eq_2 ..) (Ev.ifn hi (Ev.eq (Ev.now _) ?_))
      rw [List.drop_eq_nil_of_le (by rw [bytesOf_length]; omega)]
      exact (if_pos (show Q.valA a [] < 18446744073709551616 from ha)).symm
theorem pw_ev (s : ByteArray) (hs : s.size ≤ 140737488351232) : Ev (fun k => digits_ParseWord.f k s) (pwB s) := by
  unfold digits_ParseWord.f pwB Q.pwN
  refine Ev.call (shaped_ev s hs) ?_
  by_cases h : Q.shapedN (bytesOf s) = true
  · rw [h]
    refine Ev.ifp rfl ?_
    have h2 := pw_loop s hs (Q.shaped_of _ h).1 s.size 0 0 (by omega) (by omega) (by omega) (by omega)
    simp only [Int.toNat_zero, List.drop_zero] at h2
    rw [if_pos rfl]
    exact h2
  · refine Ev.ifn h (Ev.eq (Ev.now _) ?_)
    rw [if_neg h]
theorem form_loop (s : ByteArray) (hs : s.size ≤ 140737488351232) : ∀ (d : Nat) (i : Int), 0 ≤ i → i ≤ s.size → (s.size : Int) - i ≤ d →
    Ev (fun k => horariumref01_form.l0 k s i) (((bytesOf s).drop i.toNat).all Q.digitI && (decide (s.size = 1) || (decide (s.size > 1) && decide ((bytesOf s).getD 0 0 ≠ 48)))) := by
  have hend : ∀ i : Int, (s.size : Int) ≤ i → Ev (fun k => horariumref01_form.l0 k s i) (((bytesOf s).drop i.toNat).all Q.digitI && (decide (s.size = 1) || (decide (s.size > 1) && decide ((bytesOf s).getD 0 0 ≠ 48)))) := by
    intro i h
    refine Ev.step (fun k => horariumref01_form.l0.eq_2 ..) (Ev.ifn (by omega) ?_)
    rw [List.drop_eq_nil_of_le (by rw [bytesOf_length]; omega), ← bt_zero]
    by_cases h1 : s.size = 1
    · refine Ev.ifp (by omega) (Ev.eq (Ev.now _) ?_)
      rw [decide_eq_true h1]; rfl
    · refine Ev.ifn (by omega) ?_
      rw [decide_eq_false h1]
      by_cases h2 : s.size > 1
      · refine Ev.ifp (by omega) (Ev.ifp (by omega) (Ev.eq (Ev.now _) ?_))
        rw [decide_eq_true h2]
        by_cases h3 : bt s 0 = 48
        · rw [h3]; rfl
        · simp [h3]
      · refine Ev.ifn (by omega) (Ev.eq (Ev.now _) ?_)
        rw [decide_eq_false h2]; rfl
  intro d
  induction d with
  | zero => intro i h0 h1 hd; exact hend i (by omega)
  | succ d ih =>
    intro i h0 h1 hd
    by_cases hi : i < s.size
    · refine Ev.step (fun k => horariumref01_form.l0.eq_2 ..) (Ev.ifp hi (Ev.ifp h0 ?_))
      rw [bytes_drop s i h0 hi, List.all_cons]
      by_cases ha : bt s i < 48
      · refine Ev.ifp ha (Ev.eq (Ev.now _) ?_)
        rw [show Q.digitI (bt s i) = false from decide_eq_false (by omega)]; rfl
      · refine Ev.ifn ha ?_
        by_cases hb : bt s i > 57
        · refine Ev.ifp hb (Ev.eq (Ev.now _) ?_)
          rw [show Q.digitI (bt s i) = false from decide_eq_false (by omega)]; rfl
        · refine Ev.ifn hb ?_
          rw [show Q.digitI (bt s i) = true from decide_eq_true (by omega), Bool.true_and, w64_in (by omega) (by omega)]
          exact ih (i + 1) (by omega) (by omega) (by omega)
    · exact hend i (by omega)
theorem form_ev (s : ByteArray) (hs : s.size ≤ 140737488351232) : Ev (fun k => horariumref01_form.f k s) (Q.shapedN (bytesOf s)) := by
  unfold horariumref01_form.f Q.shapedN
  rw [bytesOf_length]
  have h := form_loop s hs s.size 0 (by omega) (by omega) (by omega)
  simp only [Int.toNat_zero, List.drop_zero] at h
  exact h
theorem refpw_loop (s : ByteArray) (hs : s.size ≤ 140737488351232) (hd : (bytesOf s).all Q.digitI = true) (hv : Q.valA 0 (bytesOf s) < 18446744073709551616) : ∀ (d : Nat) (i : Int) (a : Nat), 0 ≤ i → i ≤ s.size → (s.size : Int) - i ≤ d → Q.valA a ((bytesOf s).drop i.toNat) = Q.valA 0 (bytesOf s) →
    Ev (fun k => horariumref01_ParseWord.l0 k s (a : Int) i) ((Q.valA 0 (bytesOf s) : Nat), 0) := by
  have hend : ∀ (i : Int) (a : Nat), (s.size : Int) ≤ i → Q.valA a ((bytesOf s).drop i.toNat) = Q.valA 0 (bytesOf s) → Ev (fun k => horariumref01_ParseWord.l0 k s (a : Int) i) ((Q.valA 0 (bytesOf s) : Nat), 0) := by
    intro i a h h2
    refine Ev.step (fun k => horariumref01_ParseWord.l0.eq_2 ..) (Ev.ifn (by omega) (Ev.eq (Ev.now _) ?_))
    rw [List.drop_eq_nil_of_le (by rw [bytesOf_length]; omega)] at h2
    rw [← h2]
    rfl
  intro d
  induction d with
  | zero => intro i a h0 h1 hd h2; exact hend i a (by omega) h2
  | succ d ih =>
    intro i a h0 h1 hd2 h2
    by_cases hi : i < s.size
    · refine Ev.step (fun k => horariumref01_ParseWord.l0.eq_2 ..) (Ev.ifp hi (Ev.ifp h0 ?_))
      have hm : Q.digitI (bt s i) = true := by
        refine List.all_eq_true.1 hd _ ?_
        have h5 : bt s i ∈ (bytesOf s).drop i.toNat := by rw [bytes_drop s i h0 hi]; exact List.mem_cons_self
        exact List.mem_of_mem_drop h5
      simp only [Q.digitI, decide_eq_true_eq] at hm
      rw [bytes_drop s i h0 hi, Q.valA] at h2
      have e : (bt s i - 48) % 256 = (((bt s i - 48).toNat : Nat) : Int) := by omega
      rw [e]
      have h6 := Q.valA_mono ((bytesOf s).drop (i + 1).toNat) (10 * a + (bt s i - 48).toNat)
      rw [h2] at h6
      generalize hc : (bt s i - 48).toNat = c at *
      have e2 : IntKind.u64.wrap (IntKind.u64.wrap (10 * (a : Int)) + (c : Int)) = ((10 * a + c : Nat) : Int) := by
        rw [u64_in2 (x := 10 * (a : Int)) (by omega) (by omega), u64_in2 (by omega) (by omega)]
        omega
      rw [e2, w64_in (by omega) (by omega)]
      exact ih (i + 1) (10 * a + c) (by omega) (by omega) (by omega) h2
    · exact hend i a (by omega) h2
theorem bytes_less : ∀ (a b : List UInt8), a.length = b.length → (Q.nums a).all Q.digitI = true → (Q.nums b).all Q.digitI = true → Op.bytesLess a b = decide (Q.valA 0 (Q.nums a) < Q.valA 0 (Q.nums b))
  | [], [], _, _, _ => by simp [Op.bytesLess, Q.nums, Q.valA]
  | x :: a, y :: b, hl, ha, hb => by
    have ha2 : Q.digitI (x.toNat : Int) = true ∧ (Q.nums a).all Q.digitI = true := by simpa [Q.nums] using ha
    have hb2 : Q.digitI (y.toNat : Int) = true ∧ (Q.nums b).all Q.digitI = true := by simpa [Q.nums] using hb
    have ih := bytes_less a b (by simpa using hl) ha2.2 hb2.2
    have la := Q.valA_lt _ ha2.2
    have lb := Q.valA_lt _ hb2.2
    have hlen : (Q.nums b).length = (Q.nums a).length := by unfold Q.nums; rw [List.length_map, List.length_map]; simpa using hl.symm
    rw [hlen] at lb
    have ex : Q.valA 0 (Q.nums (x :: a)) = (x.toNat - 48) * 10 ^ (Q.nums a).length + Q.valA 0 (Q.nums a) := by
      show Q.valA (10 * 0 + ((x.toNat : Int) - 48).toNat) (Q.nums a) = _
      rw [Q.valA_add]
      congr 2
      omega
    have ey : Q.valA 0 (Q.nums (y :: b)) = (y.toNat - 48) * 10 ^ (Q.nums a).length + Q.valA 0 (Q.nums b) := by
      show Q.valA (10 * 0 + ((y.toNat : Int) - 48).toNat) (Q.nums b) = _
      rw [Q.valA_add, hlen]
      congr 2
      omega
    have hx := ha2.1
    have hy := hb2.1
    simp only [Q.digitI, decide_eq_true_eq] at hx hy
    rw [Op.bytesLess, ih, ex, ey]
    generalize 10 ^ (Q.nums a).length = p at *
    rcases Nat.lt_trichotomy x.toNat y.toNat with h | h | h
    · have h1 : x < y := h
      have h5 : (x.toNat - 48 + 1) * p ≤ (y.toNat - 48) * p := Nat.mul_le_mul_right p (by omega)
      rw [Nat.add_mul] at h5
      rw [decide_eq_true h1, Bool.true_or, decide_eq_true (by omega)]
    · have e : x = y := UInt8.toNat_inj.1 h
      subst e
      have h1 : ¬ x < x := fun h' => Nat.lt_irrefl _ h'
      rw [decide_eq_false h1, Bool.false_or, beq_self_eq_true, Bool.true_and]
      apply decide_eq_decide.2
      omega
    · have h2 : ¬ x < y := fun h' => Nat.lt_asymm h h'
      have h3 : ¬ x = y := fun e => by subst e; exact Nat.lt_irrefl _ h
      have h5 : (y.toNat - 48 + 1) * p ≤ (x.toNat - 48) * p := Nat.mul_le_mul_right p (by omega)
      rw [Nat.add_mul] at h5
      rw [decide_eq_false h2, Bool.false_or, show (x == y) = false from beq_eq_false_iff_ne.2 h3, Bool.false_and, decide_eq_false (by omega)]
theorem refpw_ev (s : ByteArray) (hs : s.size ≤ 140737488351232) : Ev (fun k => horariumref01_ParseWord.f k s) (pwB s) := by
  unfold horariumref01_ParseWord.f pwB Q.pwN
  refine Ev.call (form_ev s hs) ?_
  by_cases h : Q.shapedN (bytesOf s) = true
  · rw [h]
    refine Ev.ifp rfl ?_
    rw [if_pos rfl]
    have hsz : (bytesOf s).length = s.size := bytesOf_length s
    have hdig := (Q.shaped_of _ h).1
    have hgo : Q.valA 0 (bytesOf s) < 18446744073709551616 → Ev (fun k => horariumref01_ParseWord.j0 k s false) ((Q.valA 0 (bytesOf s) : Nat), 0) := by
      intro hv
      refine Ev.step (fun k => horariumref01_ParseWord.j0.eq_2 ..) (Ev.ifn (by decide) ?_)
      exact refpw_loop s hs hdig hv s.size 0 0 (by omega) (by omega) (by omega) (by simp)
    have hno : Ev (fun k => horariumref01_ParseWord.j0 k s true) (0, 6) := Ev.step (fun k => horariumref01_ParseWord.j0.eq_2 ..) (Ev.ifp rfl (Ev.now _))
    by_cases h20 : s.size > 20
    · have h5 := Q.shaped_long _ h (by omega)
      refine Ev.ifp (by omega) (Ev.eq hno ?_)
      rw [if_neg (by omega)]
    · refine Ev.ifn (by omega) ?_
      by_cases he : s.size = 20
      · refine Ev.ifp (by omega) ?_
        have h6 := bytes_less [49, 56, 52, 52, 54, 55, 52, 52, 48, 55, 51, 55, 48, 57, 53, 53, 49, 54, 49, 53] s.data.toList (by rw [data_length, he]; rfl) (by decide) (by rw [nums_bytes]; exact hdig)
        rw [nums_bytes, show Q.valA 0 (Q.nums [49, 56, 52, 52, 54, 55, 52, 52, 48, 55, 51, 55, 48, 57, 53, 53, 49, 54, 49, 53]) = 18446744073709551615 by decide +kernel] at h6
        rw [ByteArray.toList_eq, h6]
        by_cases hv : Q.valA 0 (bytesOf s) < 18446744073709551616
        · rw [if_pos hv, decide_eq_false (by omega)]
          exact hgo hv
        · rw [if_neg hv, decide_eq_true (by omega)]
          exact hno
      · refine Ev.ifn (by omega) ?_
        have hv := Q.valA_lt _ hdig
        rw [hsz] at hv
        have h7 : 10 ^ s.size ≤ 10 ^ 19 := Nat.pow_le_pow_right (by decide) (by omega)
        rw [if_pos (by omega)]
        exact hgo (by omega)
  · refine Ev.ifn h (Ev.eq (Ev.now _) ?_)
    rw [if_neg h]
end Go.Proofs.YtnagecfpbkffpaaDoor.P
