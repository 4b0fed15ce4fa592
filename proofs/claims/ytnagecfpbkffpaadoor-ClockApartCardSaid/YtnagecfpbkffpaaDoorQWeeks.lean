import Derived.Test.YtnagecfpbkffpaaDoorQNum
namespace Go.Proofs.YtnagecfpbkffpaaDoor.Q
set_option linter.unusedVariables false
set_option linter.unusedSimpArgs false
def endB (b : Nat → Bool) : Nat → Nat → Nat
  | 0, i => i - 1
  | n + 1, i => if b i then endB b n (i + 1) else i - 1
def runsB (b : Nat → Bool) : Bool → Nat → Nat → List (Nat × Nat)
  | _, 0, _ => []
  | within, n + 1, i => if b i then (if within then runsB b true n (i + 1) else (i, endB b n (i + 1)) :: runsB b true n (i + 1)) else runsB b false n (i + 1)
def runT (r : Nat × Nat) : List Int := dec (r.1 + 1) ++ if r.2 > r.1 then 45 :: dec (r.2 + 1) else []
def bitB (w : Nat) (i : Nat) : Bool := decide (w / 2 ^ i % 2 = 1)
def weeksL (w : Nat) : List Int := joinN 44 ((runsB (bitB w) false 20 0).map runT)
def numN (p : List Int) : Option Int := if (pwN p).2 = 0 ∧ p.length ≤ 2 then some (pwN p).1 else none
def runP (p : List Int) : Option (Int × Int) :=
  match piecesA 45 [] p with
  | [x] => (numN x).bind fun n => some (n, n)
  | [x, y] => (numN x).bind fun a => (numN y).bind fun b => if a < b then some (a, b) else none
  | _ => none
def pwkN : List (List Int) → Int → Nat → Bool → Int × Int
  | [], _, acc, fits => if fits then ((acc : Int), 0) else (0, 6)
  | p :: ps, next, acc, fits =>
    match runP p with
    | none => (0, 3)
    | some (a, b) => if a < next then (0, 3) else if a < 1 ∨ b > 20 then pwkN ps (b + 2) acc false else pwkN ps (b + 2) (acc + (2 ^ b.toNat - 2 ^ (a - 1).toNat)) fits
theorem endB_ge (b : Nat → Bool) (n : Nat) : ∀ i, i - 1 ≤ endB b n i := by
  induction n with
  | zero => intro i; exact Nat.le_refl _
  | succ n ih =>
    intro i
    rw [endB]
    split
    · have := ih (i + 1); omega
    · exact Nat.le_refl _
theorem endB_lt (b : Nat → Bool) (n : Nat) : ∀ i, 0 < i → endB b n i < i + n := by
  induction n with
  | zero => intro i h; show i - 1 < i + 0; omega
  | succ n ih =>
    intro i h
    rw [endB]
    split
    · have := ih (i + 1) (by omega); omega
    · omega
theorem runsB_length (b : Nat → Bool) (n : Nat) : ∀ within i, (runsB b within n i).length ≤ n := by
  induction n with
  | zero => intro within i; simp [runsB]
  | succ n ih =>
    intro within i
    have h1 := ih true (i + 1)
    have h2 := ih false (i + 1)
    rw [runsB]
    split
    · split
      · omega
      · simp only [List.length_cons]; omega
    · omega
theorem runT_length (r : Nat × Nat) : (runT r).length ≤ 41 := by
  have h1 := dec_length (r.1 + 1)
  have h2 := dec_length (r.2 + 1)
  unfold runT
  split
  · simp only [List.length_append, List.length_cons]; omega
  · simp only [List.append_nil]; omega
theorem runT_mem (r : Nat × Nat) (c : Int) (h : c ∈ runT r) : (48 ≤ c ∧ c ≤ 57) ∨ c = 45 := by
  unfold runT at h
  rcases List.mem_append.1 h with h | h
  · exact .inl (dec_digit _ c h)
  · split at h
    · rcases List.mem_cons.1 h with h | h
      · exact .inr h
      · exact .inl (dec_digit _ c h)
    · cases h
theorem runT_Bs (r : Nat × Nat) : Bs (runT r) := by
  intro c h
  rcases runT_mem r c h with h | h <;> omega
theorem runP_runT : ∀ a : Fin 20, ∀ e : Fin 20, a.1 ≤ e.1 → runP (runT (a.1, e.1)) = some ((a.1 : Int) + 1, (e.1 : Int) + 1) := by decide +kernel
theorem mod_bit (w i : Nat) : w % 2 ^ (i + 1) = w % 2 ^ i + if bitB w i then 2 ^ i else 0 := by
  rw [Nat.mod_pow_succ]
  unfold bitB
  by_cases h : w / 2 ^ i % 2 = 1
  · rw [if_pos (decide_eq_true h), h, Nat.mul_one]
  · rw [show w / 2 ^ i % 2 = 0 by omega]
    simp
theorem ones_end (w n : Nat) : ∀ j, 0 < j → w % 2 ^ (endB (bitB w) n j + 1) = w % 2 ^ j + (2 ^ (endB (bitB w) n j + 1) - 2 ^ j) := by
  induction n with
  | zero =>
    intro j h
    show w % 2 ^ (j - 1 + 1) = w % 2 ^ j + (2 ^ (j - 1 + 1) - 2 ^ j)
    rw [show j - 1 + 1 = j by omega]
    omega
  | succ n ih =>
    intro j h
    rw [endB]
    by_cases hb : bitB w j = true
    · rw [if_pos hb, ih (j + 1) (by omega), mod_bit, if_pos hb]
      have h1 := endB_ge (bitB w) n (j + 1)
      have h2 : 2 ^ (j + 1) ≤ 2 ^ (endB (bitB w) n (j + 1) + 1) := Nat.pow_le_pow_right (by decide) (by omega)
      have h3 : 2 ^ (j + 1) = 2 ^ j + 2 ^ j := by rw [Nat.pow_succ]; omega
      omega
    · rw [if_neg hb, show j - 1 + 1 = j by omega]
      omega
theorem pwk_runs (w n : Nat) : ∀ i, i + n ≤ 20 →
    (∀ next : Int, next ≤ (i : Int) + 1 → pwkN ((runsB (bitB w) false n i).map runT) next (w % 2 ^ i) true = (((w % 2 ^ (i + n) : Nat) : Int), 0)) ∧
    (0 < i → pwkN ((runsB (bitB w) true n i).map runT) ((endB (bitB w) n i : Int) + 3) (w % 2 ^ (endB (bitB w) n i + 1)) true = (((w % 2 ^ (i + n) : Nat) : Int), 0)) := by
  induction n with
  | zero =>
    intro i hi
    refine ⟨fun next hn => rfl, fun h => ?_⟩
    show ((((w % 2 ^ (i - 1 + 1) : Nat)) : Int), (0 : Int)) = _
    rw [show i - 1 + 1 = i by omega]
    rfl
  | succ n ih =>
    intro i hi
    obtain ⟨ih1, ih2⟩ := ih (i + 1) (by omega)
    rw [show i + (n + 1) = i + 1 + n by omega]
    by_cases hb : bitB w i = true
    · have hm := mod_bit w i
      rw [if_pos hb] at hm
      refine ⟨fun next hn => ?_, fun h => ?_⟩
      · rw [runsB, if_pos hb, if_neg (by decide), List.map_cons, pwkN]
        have h1 := endB_ge (bitB w) n (i + 1)
        have h2 := endB_lt (bitB w) n (i + 1) (by omega)
        have hr : runP (runT (i, endB (bitB w) n (i + 1))) = some ((i : Int) + 1, (endB (bitB w) n (i + 1) : Int) + 1) := runP_runT ⟨i, by omega⟩ ⟨endB (bitB w) n (i + 1), by omega⟩ (show i ≤ endB (bitB w) n (i + 1) by omega)
        rw [hr]
        simp only
        have h3 := ones_end w n (i + 1) (by omega)
        have h4 : 2 ^ (i + 1) ≤ 2 ^ (endB (bitB w) n (i + 1) + 1) := Nat.pow_le_pow_right (by decide) (by omega)
        have h5 : 2 ^ (i + 1) = 2 ^ i + 2 ^ i := by rw [Nat.pow_succ]; omega
        rw [if_neg (by omega), if_neg (by omega)]
        have e1 : ((endB (bitB w) n (i + 1) : Int) + 1).toNat = endB (bitB w) n (i + 1) + 1 := by omega
        have e2 : ((i : Int) + 1 - 1).toNat = i := by omega
        have e3 : ((endB (bitB w) n (i + 1) : Int) + 1 + 2) = (endB (bitB w) n (i + 1) : Int) + 3 := by omega
        have e4 : w % 2 ^ i + (2 ^ (endB (bitB w) n (i + 1) + 1) - 2 ^ i) = w % 2 ^ (endB (bitB w) n (i + 1) + 1) := by omega
        rw [e1, e2, e3, e4]
        exact ih2 (by omega)
      · rw [runsB, if_pos hb, if_pos rfl, endB, if_pos hb]
        exact ih2 (by omega)
    · have hm : w % 2 ^ (i + 1) = w % 2 ^ i := by
        have hm := mod_bit w i
        rw [if_neg hb] at hm
        exact hm
      refine ⟨fun next hn => ?_, fun h => ?_⟩
      · rw [runsB, if_neg hb, ← hm]
        exact ih1 next (by omega)
      · rw [runsB, if_neg hb, endB, if_neg hb, show i - 1 + 1 = i by omega, ← hm]
        exact ih1 _ (by omega)
def parseWN (l : List Int) : Int × Int := pwkN (piecesA 44 [] l) 0 0 true
theorem bitB_test (w i : Nat) : bitB w i = w.testBit i := by rw [Nat.testBit_eq_decide_div_mod_eq]; rfl
theorem runs_none (b : Nat → Bool) (n : Nat) : ∀ i, (∀ j, i ≤ j → j < i + n → b j = false) → runsB b false n i = [] := by
  induction n with
  | zero => intro i h; rfl
  | succ n ih =>
    intro i h
    rw [runsB, h i (Nat.le_refl _) (by omega)]
    exact ih (i + 1) (fun j h1 h2 => h j (by omega) (by omega))
theorem weeks_back (w : Nat) : parseWN (weeksL w) = if w % 1048576 = 0 then (0, 3) else (((w % 1048576 : Nat) : Int), 0) := by
  have h := (pwk_runs w 20 0 (by omega)).1 0 (by omega)
  rw [Nat.pow_zero, Nat.mod_one, show 2 ^ (0 + 20) = 1048576 by decide] at h
  unfold parseWN weeksL
  by_cases h0 : w % 1048576 = 0
  · have hr : runsB (bitB w) false 20 0 = [] := by
      refine runs_none _ 20 0 (fun j _ hj => ?_)
      rw [bitB_test]
      have h2 := Nat.testBit_mod_two_pow w 20 j
      rw [show 2 ^ 20 = 1048576 by decide, h0, Nat.zero_testBit, decide_eq_true (by omega), Bool.true_and] at h2
      exact h2.symm
    rw [hr, if_pos h0]
    rfl
  · rw [if_neg h0]
    have hr : runsB (bitB w) false 20 0 ≠ [] := by
      intro e
      rw [e] at h
      have h2 := congrArg Prod.fst h
      simp only [List.map_nil, pwkN] at h2
      have h3 : ((0 : Nat) : Int) = ((w % 1048576 : Nat) : Int) := h2
      omega
    rw [pieces_join 44 _ (by simpa using hr), h]
    intro p hp
    obtain ⟨r, _, rfl⟩ := List.mem_map.1 hp
    intro hc
    rcases runT_mem r 44 hc with h2 | h2 <;> omega
def SepFrom : Nat → List (Nat × Nat) → Prop
  | _, [] => True
  | i, r :: L => i ≤ r.1 ∧ r.1 ≤ r.2 ∧ r.2 < 20 ∧ SepFrom (r.2 + 2) L
theorem SepFrom.mono : ∀ (L : List (Nat × Nat)) (i k : Nat), i ≤ k → SepFrom k L → SepFrom i L
  | [], _, _, _, _ => trivial
  | r :: L, i, k, h, ⟨h1, h2⟩ => ⟨by omega, h2⟩
end Go.Proofs.YtnagecfpbkffpaaDoor.Q
