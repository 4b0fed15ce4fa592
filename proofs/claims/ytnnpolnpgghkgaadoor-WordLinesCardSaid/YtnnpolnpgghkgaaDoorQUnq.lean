import Derived.Test.YtnnpolnpgghkgaaDoorQWord
/-! Words read back, as plain Lean on numbers. -/
namespace Go.Proofs.YtnnpolnpgghkgaaDoor.Q
def hexv (c : Int) : Int := if 48 ≤ c ∧ c ≤ 57 then c - 48 else if 97 ≤ c ∧ c ≤ 102 then c - 87 else -1
def pairv (a b : Int) : Int := if hexv a < 0 ∨ hexv b < 0 then -1 else 16 * hexv a + hexv b
def unq : List Int → Option (List Int)
  | [] => some []
  | [c] => if plainI c then some [c] else none
  | [c, a] => if plainI c then (unq [a]).map (c :: ·) else none
  | c :: a :: b :: r => if plainI c then (unq (a :: b :: r)).map (c :: ·) else if c = 37 then (if pairv a b < 0 ∨ plainI (pairv a b) = true then none else (unq r).map (pairv a b :: ·)) else none
def unquoteN (w : List Int) : Option (List Int) := if w = [37] then some [] else if w = [] then none else unq w
/-- are they bytes? -/
def Bs (l : List Int) : Prop := ∀ c ∈ l, 0 ≤ c ∧ c ≤ 255
theorem Bs.cons {c : Int} {l : List Int} (h : Bs (c :: l)) : (0 ≤ c ∧ c ≤ 255) ∧ Bs l := ⟨h c (by simp), fun d hd => h d (by simp [hd])⟩
theorem Bs.mk {c : Int} {l : List Int} (h : 0 ≤ c ∧ c ≤ 255) (hl : Bs l) : Bs (c :: l) := by
  intro d hd
  rcases List.mem_cons.1 hd with rfl | hd
  · exact h
  · exact hl d hd

theorem plain_mark : plainI 37 = false := by decide
theorem unq_plain (c : Int) (h : plainI c = true) : ∀ r, unq (c :: r) = (unq r).map (c :: ·)
  | [] => by simp [unq, h]
  | [a] => by rw [show unq [c, a] = (if plainI c = true then (unq [a]).map (c :: ·) else none) from rfl, if_pos h]
  | a :: b :: r => by rw [unq, if_pos h]
theorem unq_mark (a b : Int) (r : List Int) : unq (37 :: a :: b :: r) = if pairv a b < 0 ∨ plainI (pairv a b) = true then none else (unq r).map (pairv a b :: ·) := by
  rw [unq, if_neg (by rw [plain_mark]; simp), if_pos rfl]
theorem unq_none (c : Int) (r : List Int) (h : plainI c = false) (hr : c ≠ 37 ∨ r.length < 2) : unq (c :: r) = none := by
  match r, hr with
  | [], _ => rw [unq, if_neg (by rw [h]; simp)]
  | [a], _ => rw [unq, if_neg (by rw [h]; simp)]
  | a :: b :: r, hr =>
    rw [unq, if_neg (by rw [h]; simp), if_neg]
    rcases hr with hr | hr
    · exact hr
    · simp at hr
      omega
theorem hexv_hexI (x : Int) (h0 : 0 ≤ x) (h1 : x < 16) : hexv (hexI x) = x := by
  unfold hexI hexv
  split <;> split <;> (try split) <;> omega
theorem hexI_hexv (a : Int) (h : 0 ≤ hexv a) : hexI (hexv a) = a ∧ hexv a < 16 := by
  unfold hexv at h ⊢
  unfold hexI
  split at h
  · rename_i h1; rw [if_pos h1]; constructor
    · rw [if_pos (by omega)]; omega
    · omega
  · rename_i h1; rw [if_neg h1]
    split at h
    · rename_i h2; rw [if_pos h2]; constructor
      · rw [if_neg (by omega)]; omega
      · omega
    · omega
theorem pair_word (c : Int) (h : 0 ≤ c ∧ c ≤ 255) : pairv (hexI (c / 16)) (hexI (c % 16)) = c := by
  unfold pairv
  rw [hexv_hexI _ (by omega) (by omega), hexv_hexI _ (by omega) (by omega), if_neg (by omega)]
  omega
theorem word_pair (a b : Int) (h : 0 ≤ pairv a b) : hexI (pairv a b / 16) = a ∧ hexI (pairv a b % 16) = b ∧ pairv a b ≤ 255 := by
  unfold pairv at h ⊢
  split at h
  · omega
  · rename_i h1
    rw [if_neg h1]
    have ha := hexI_hexv a (by omega)
    have hb := hexI_hexv b (by omega)
    have e1 : (16 * hexv a + hexv b) / 16 = hexv a := by omega
    have e2 : (16 * hexv a + hexv b) % 16 = hexv b := by omega
    rw [e1, e2]
    exact ⟨ha.1, hb.1, by omega⟩
theorem unq_word1 (c : Int) (h : 0 ≤ c ∧ c ≤ 255) (r : List Int) : unq (word1 c ++ r) = (unq r).map (c :: ·) := by
  unfold word1
  by_cases hp : plainI c = true
  · rw [if_pos hp]
    exact unq_plain c hp r
  · rw [if_neg hp]
    show unq (37 :: hexI (c / 16) :: hexI (c % 16) :: r) = _
    rw [unq_mark, pair_word c h, if_neg]
    rintro (h1 | h1)
    · omega
    · exact hp h1
theorem unq_flat (l : List Int) (h : Bs l) : unq (l.flatMap word1) = some l := by
  induction l with
  | nil => rfl
  | cons c l ih =>
    obtain ⟨hc, hl⟩ := h.cons
    rw [List.flatMap_cons, unq_word1 c hc, ih hl]
    rfl
theorem flat_of_unq' : ∀ (n : Nat) (w l : List Int), w.length ≤ n → unq w = some l → w = l.flatMap word1 ∧ (Bs w → Bs l) := by
  intro n
  induction n with
  | zero =>
    intro w l hn h
    match w, hn, h with
    | [], _, h => obtain rfl : [] = l := by simpa [unq] using h
                  exact ⟨rfl, fun h => h⟩
  | succ n ih =>
    intro w l hn h
    match w, hn, h with
    | [], _, h => obtain rfl : [] = l := by simpa [unq] using h
                  exact ⟨rfl, fun h => h⟩
    | c :: r, hn, h =>
      by_cases hp : plainI c = true
      · rw [unq_plain c hp] at h
        obtain ⟨l', h', rfl⟩ := Option.map_eq_some_iff.1 h
        have h3 := ih r l' (by simp at hn; omega) h'
        refine ⟨?_, fun hb => Bs.mk hb.cons.1 (h3.2 hb.cons.2)⟩
        rw [List.flatMap_cons, ← h3.1]
        unfold word1
        rw [if_pos hp]
        rfl
      · have hp' : plainI c = false := by simpa using hp
        by_cases hr : c ≠ 37 ∨ r.length < 2
        · rw [unq_none c r hp' hr] at h
          cases h
        · have hc : c = 37 := Classical.byContradiction fun h1 => hr (.inl h1)
          have hl : 2 ≤ r.length := by
            rcases Nat.lt_or_ge r.length 2 with h1 | h1
            · exact absurd (.inr h1) hr
            · exact h1
          match r, hl with
          | a :: b :: r, _ =>
            subst hc
            rw [unq_mark] at h
            by_cases hx : pairv a b < 0 ∨ plainI (pairv a b) = true
            · rw [if_pos hx] at h
              cases h
            · rw [if_neg hx] at h
              obtain ⟨l', h', rfl⟩ := Option.map_eq_some_iff.1 h
              have h0 : 0 ≤ pairv a b := by
                rcases Int.lt_or_le (pairv a b) 0 with h1 | h1
                · exact absurd (.inl h1) hx
                · exact h1
              have hw := word_pair a b h0
              have h3 := ih r l' (by simp at hn; omega) h'
              refine ⟨?_, fun hb => Bs.mk ⟨h0, hw.2.2⟩ (h3.2 hb.cons.2.cons.2.cons.2)⟩
              rw [List.flatMap_cons, ← h3.1]
              unfold word1
              rw [if_neg (fun h1 => hx (.inr h1)), hw.1, hw.2.1]
              rfl
theorem flat_of_unq (n : Nat) (w l : List Int) (hn : w.length ≤ n) (h : unq w = some l) : w = l.flatMap word1 := (flat_of_unq' n w l hn h).1
theorem unq_bytes (w l : List Int) (hb : Bs w) (h : unq w = some l) : Bs l := (flat_of_unq' _ w l (Nat.le_refl _) h).2 hb
theorem unquote_bytes (w l : List Int) (hb : Bs w) (h : unquoteN w = some l) : Bs l := by
  unfold unquoteN at h
  split at h
  · obtain rfl : [] = l := by simpa using h
    intro c hc
    cases hc
  · split at h
    · cases h
    · exact unq_bytes w l hb h
theorem quoteN_ne {l : List Int} (h : l ≠ []) : quoteN l = l.flatMap word1 := by
  cases l with
  | nil => exact absurd rfl h
  | cons c r => rfl
theorem word1_ne (c : Int) : word1 c ≠ [] := by unfold word1; split <;> simp
theorem flat_ne {l : List Int} (h : l ≠ []) : l.flatMap word1 ≠ [] := by
  cases l with
  | nil => exact absurd rfl h
  | cons c r =>
    rw [List.flatMap_cons]
    intro h1
    exact word1_ne c (List.append_eq_nil_iff.1 h1).1
theorem flat_ne_mark (l : List Int) : l.flatMap word1 ≠ [37] := by
  cases l with
  | nil => simp
  | cons c r =>
    rw [List.flatMap_cons]
    unfold word1
    by_cases hp : plainI c = true
    · rw [if_pos hp]
      intro h
      injection h with h1 h2
      subst h1
      rw [plain_mark] at hp
      cases hp
    · rw [if_neg hp]
      intro h
      injection h with h1 h2
      cases h2
/-- Unquote inverts Quote. -/
theorem unquote_quote (l : List Int) (h : Bs l) : unquoteN (quoteN l) = some l := by
  cases l with
  | nil => rfl
  | cons c r =>
    have hne : (c :: r) ≠ [] := by simp
    rw [quoteN_ne hne]
    unfold unquoteN
    rw [if_neg (flat_ne_mark _), if_neg (flat_ne hne), unq_flat _ h]
/-- and no other word is accepted. -/
theorem quote_unquote (w l : List Int) (h : unquoteN w = some l) : quoteN l = w := by
  unfold unquoteN at h
  by_cases h1 : w = [37]
  · rw [if_pos h1] at h
    obtain rfl : [] = l := by simpa using h
    exact h1.symm
  · rw [if_neg h1] at h
    by_cases h2 : w = []
    · rw [if_pos h2] at h
      cases h
    · rw [if_neg h2] at h
      have hw := flat_of_unq _ w l (Nat.le_refl _) h
      have hl : l ≠ [] := by
        rintro rfl
        exact h2 hw
      rw [quoteN_ne hl]
      exact hw.symm
theorem word1_bytes (c : Int) (h : 0 ≤ c ∧ c ≤ 255) : Bs (word1 c) := by
  unfold word1
  split
  · exact Bs.mk h (fun _ h => by cases h)
  · have e : ∀ x : Int, 0 ≤ x → x < 16 → 0 ≤ hexI x ∧ hexI x ≤ 255 := by intro x h0 h1; unfold hexI; split <;> omega
    exact Bs.mk (by omega) (Bs.mk (e _ (by omega) (by omega)) (Bs.mk (e _ (by omega) (by omega)) (fun _ h => by cases h)))
theorem Bs.append {a b : List Int} (ha : Bs a) (hb : Bs b) : Bs (a ++ b) := by
  intro c hc
  rcases List.mem_append.1 hc with h | h
  · exact ha c h
  · exact hb c h
theorem flat_bytes (l : List Int) (h : Bs l) : Bs (l.flatMap word1) := by
  induction l with
  | nil => intro c hc; cases hc
  | cons c l ih => rw [List.flatMap_cons]; exact (word1_bytes c h.cons.1).append (ih h.cons.2)
theorem quoteN_bytes (l : List Int) (h : Bs l) : Bs (quoteN l) := by
  cases l with
  | nil => exact Bs.mk (by omega) (fun _ h => by cases h)
  | cons c r => exact flat_bytes _ h
end Go.Proofs.YtnnpolnpgghkgaaDoor.Q
