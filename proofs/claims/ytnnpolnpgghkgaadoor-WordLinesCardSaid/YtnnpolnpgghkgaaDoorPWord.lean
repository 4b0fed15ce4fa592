import Derived.Test.YtnnpolnpgghkgaaDoorPEv
import Derived.Test.YtnnpolnpgghkgaaDoorPx2
import Derived.Test.YtnnpolnpgghkgaaDoorPx3
/-! What the program's Quote and Unquote answer. -/
namespace Go.Proofs.YtnnpolnpgghkgaaDoor.P
open Go.RowKit Go.Proofs.YtnnpolnpgghkgaaDoorW.PrintWords
set_option linter.unusedVariables false
set_option linter.unusedSimpArgs false
theorem plain_all : ∀ c : Fin 256, word_plain.f 5 (c.1 : Int) = some (Q.plainI (c.1 : Int)) := by decide +kernel
theorem plain_ev (c : Int) (h : 0 ≤ c ∧ c ≤ 255) : Ev (fun k => word_plain.f k c) (Q.plainI c) := by
  have h1 := plain_all ⟨c.toNat, by omega⟩
  have e : ((c.toNat : Nat) : Int) = c := by omega
  simp only [e] at h1
  exact Ev.of (word_plain.mono c) h1
theorem digit_all : ∀ c : Fin 256, strings_IndexByte.f ⟨#[48, 49, 50, 51, 52, 53, 54, 55, 56, 57, 97, 98, 99, 100, 101, 102]⟩ (c.1 : Int) = some (Q.hexv (c.1 : Int)) := by decide +kernel
theorem digit_eq (c : Int) (h : 0 ≤ c ∧ c ≤ 255) : strings_IndexByte.f ⟨#[48, 49, 50, 51, 52, 53, 54, 55, 56, 57, 97, 98, 99, 100, 101, 102]⟩ c = some (Q.hexv c) := by
  have h1 := digit_all ⟨c.toNat, by omega⟩
  have e : ((c.toNat : Nat) : Int) = c := by omega
  simp only [e] at h1
  exact h1
theorem or_all : ∀ x y : Fin 16, Go.bits .or .i64 (wrap64 ((x.1 : Int) * 16)) (y.1 : Int) = 16 * (x.1 : Int) + (y.1 : Int) := by decide +kernel
theorem hexv_range (c : Int) : -1 ≤ Q.hexv c ∧ Q.hexv c < 16 := by unfold Q.hexv; split <;> (try split) <;> omega
theorem pair_eq (a b : Int) (ha : 0 ≤ a ∧ a ≤ 255) (hb : 0 ≤ b ∧ b ≤ 255) : word_pair.f a b = some (Q.pairv a b) := by
  unfold word_pair.f Q.pairv
  rw [digit_eq a ha, digit_eq b hb]
  simp only [Option.bind_some]
  have h1 := hexv_range a
  have h2 := hexv_range b
  by_cases c1 : Q.hexv a < 0
  · rw [if_pos c1, if_pos (.inl c1)]
  · rw [if_neg c1]
    by_cases c2 : Q.hexv b < 0
    · rw [if_pos c2, if_pos (.inr c2)]
    · rw [if_neg c2, if_neg (by omega)]
      have h3 := or_all ⟨(Q.hexv a).toNat, by omega⟩ ⟨(Q.hexv b).toNat, by omega⟩
      have e1 : (((Q.hexv a).toNat : Nat) : Int) = Q.hexv a := by omega
      have e2 : (((Q.hexv b).toNat : Nat) : Int) = Q.hexv b := by omega
      simp only [e1, e2] at h3
      rw [h3]
/-- what Unquote answers, from an index on -/
def unqAns (acc : List Int) : Option (List Int) → ByteArray × Int
  | some l => if acc ++ l = [] then (⟨#[]⟩, 3) else (strOfNums (acc ++ l), 0)
  | none => (⟨#[]⟩, 3)
theorem unqAns_map (acc : List Int) (c : Int) (o : Option (List Int)) : unqAns (acc ++ [c]) o = unqAns acc (o.map (c :: ·)) := by
  cases o with
  | none => rfl
  | some l => simp [unqAns]
theorem unquote_loop (w : ByteArray) (hw : w.size ≤ 140737488351232) : ∀ (d : Nat) (i : Int) (acc : List Int), 0 ≤ i → i ≤ w.size → (w.size : Int) - i ≤ d → acc.length ≤ i →
    Ev (fun k => word_Unquote.l0 k w acc i) (unqAns acc (Q.unq ((bytesOf w).drop i.toNat))) := by
  intro d
  induction d with
  | zero =>
    intro i acc h0 h1 hd ha
    have hi : i = w.size := by omega
    have hdrop : (bytesOf w).drop i.toNat = [] := List.drop_eq_nil_of_le (by rw [bytesOf_length]; omega)
    rw [hdrop]
    refine Ev.step (fun k => word_Unquote.l0.eq_2 ..) ?_
    refine Ev.ifn (by omega) ?_
    by_cases hn : (acc.length : Int) = 0
    · refine Ev.ifp hn (Ev.eq (Ev.now _) ?_)
      obtain rfl : acc = [] := List.eq_nil_of_length_eq_zero (by omega)
      rfl
    · refine Ev.ifn hn (Ev.eq (Ev.now _) ?_)
      have : acc ++ [] ≠ [] := by rw [List.append_nil]; intro h; rw [h] at hn; simp at hn
      simp only [Q.unq, unqAns]
      rw [if_neg this, List.append_nil]
  | succ d ih =>
    intro i acc h0 h1 hd ha
    by_cases hi : i < w.size
    · refine Ev.step (fun k => word_Unquote.l0.eq_2 ..) ?_
      refine Ev.ifp hi (Ev.ifp h0 ?_)
      have hb := bt_range w i
      refine Ev.call (plain_ev (bt w i) hb) ?_
      rw [bytes_drop w i h0 hi]
      by_cases hp : Q.plainI (bt w i) = true
      · refine Ev.ifp hp (Ev.ifp (by omega) ?_)
        rw [w64_in (by omega) (by omega), Q.unq_plain _ hp, ← unqAns_map]
        exact ih (i + 1) _ (by omega) (by omega) (by omega) (by simp; omega)
      · refine Ev.ifn hp ?_
        have hp' : Q.plainI (bt w i) = false := by simpa using hp
        have w1 : wrap64 (i + 1) = i + 1 := w64_in (by omega) (by omega)
        have w2 : wrap64 (i + 2) = i + 2 := w64_in (by omega) (by omega)
        have w3 : wrap64 (i + 3) = i + 3 := w64_in (by omega) (by omega)
        by_cases hm : bt w i = 37
        · refine Ev.ifp hm ?_
          refine Ev.step (fun k => word_Unquote.j2.eq_2 ..) ?_
          rw [w1, w2, w3]
          by_cases h2 : i + 2 ≥ (w.size : Int)
          · refine Ev.ifp (decide_eq_true h2) (Ev.eq (Ev.now _) ?_)
            rw [Q.unq_none _ _ hp' (.inr (by rw [List.length_drop, bytesOf_length]; omega))]
            rfl
          · refine Ev.ifn (by simpa using h2) ?_
            refine Ev.ifp (by omega) (Ev.ifp (by omega) (Ev.ifp (by omega) (Ev.ifp (by omega) ?_)))
            have hb1 := bt_range w (i + 1)
            have hb2 := bt_range w (i + 2)
            refine Ev.call (Ev.const (pair_eq _ _ hb1 hb2)) ?_
            rw [bytes_drop w (i + 1) (by omega) (by omega), show (i + 1 + 1 : Int) = i + 2 by omega, bytes_drop w (i + 2) (by omega) (by omega), show (i + 2 + 1 : Int) = i + 3 by omega, hm, Q.unq_mark]
            by_cases hn : Q.pairv (bt w (i + 1)) (bt w (i + 2)) < 0
            · refine Ev.ifp hn (Ev.eq (Ev.now _) ?_)
              rw [if_pos (.inl hn)]
              rfl
            · refine Ev.ifn hn ?_
              have hle := (Q.word_pair _ _ (Int.not_lt.1 hn)).2.2
              have hmod : Q.pairv (bt w (i + 1)) (bt w (i + 2)) % 256 = Q.pairv (bt w (i + 1)) (bt w (i + 2)) := by omega
              rw [hmod]
              refine Ev.call (plain_ev _ ⟨Int.not_lt.1 hn, hle⟩) ?_
              by_cases hq : Q.plainI (Q.pairv (bt w (i + 1)) (bt w (i + 2))) = true
              · refine Ev.ifp hq (Ev.eq (Ev.now _) ?_)
                rw [if_pos (.inr hq)]
                rfl
              · refine Ev.ifn hq (Ev.ifp (by omega) ?_)
                rw [if_neg (fun h => h.elim hn hq), ← unqAns_map]
                exact ih (i + 3) _ (by omega) (by omega) (by omega) (by simp; omega)
        · refine Ev.ifn hm ?_
          refine Ev.step (fun k => word_Unquote.j2.eq_2 ..) ?_
          refine Ev.ifp rfl (Ev.eq (Ev.now _) ?_)
          rw [Q.unq_none _ _ hp' (.inl hm)]
          rfl
    · have : i = w.size := by omega
      exact ih i acc h0 h1 (by omega) ha
/-- Unquote's answer -/
def unqB (w : ByteArray) : ByteArray × Int :=
  match Q.unquoteN (bytesOf w) with
  | some l => (strOfNums l, 0)
  | none => (⟨#[]⟩, 3)
theorem unquote_ev (w : ByteArray) (hw : w.size ≤ 140737488351232) : Ev (fun k => word_Unquote.f k w) (unqB w) := by
  unfold word_Unquote.f
  have hrest : bytesOf w ≠ [37] → Ev (fun k => word_Unquote.j0 k w false) (unqB w) := by
    intro hne
    refine Ev.step (fun k => word_Unquote.j0.eq_2 ..) ?_
    refine Ev.ifn (by simp) (Ev.ifp (by omega) (Ev.ifp (by omega) ?_))
    refine Ev.eq (unquote_loop w hw w.size 0 [] (by omega) (by omega) (by omega) (by simp)) ?_
    show unqAns [] (Q.unq (bytesOf w)) = _
    unfold unqB Q.unquoteN
    rw [if_neg hne]
    by_cases h0 : bytesOf w = []
    · rw [if_pos h0, h0]
      rfl
    · rw [if_neg h0]
      cases hu : Q.unq (bytesOf w) with
      | none => rfl
      | some l =>
        have : l ≠ [] := by
          rintro rfl
          exact h0 (Q.flat_of_unq _ _ _ (Nat.le_refl _) hu)
        simp only [unqAns, List.nil_append]
        rw [if_neg this]
  by_cases h1 : (w.size : Int) = 1
  · refine Ev.ifp h1 (Ev.ifp (by omega) ?_)
    have hl : bytesOf w = [bt w 0] := by
      have := bytes_drop w 0 (by omega) (by omega)
      simp only [Int.toNat_zero, List.drop_zero] at this
      rw [this, List.drop_eq_nil_of_le]
      rw [bytesOf_length]
      omega
    by_cases h2 : bt w 0 = 37
    · refine Ev.step (fun k => word_Unquote.j0.eq_2 ..) ?_
      refine Ev.ifp (by simp [h2]) (Ev.eq (Ev.now _) ?_)
      unfold unqB Q.unquoteN
      rw [hl, h2, if_pos rfl]
      rfl
    · rw [show (bt w 0 == 37) = false by simpa using h2]
      exact hrest (by rw [hl]; intro h; injection h with h; exact h2 h)
  · refine Ev.ifn h1 (hrest ?_)
    intro h
    apply h1
    have := congrArg List.length h
    rw [bytesOf_length] at this
    simp at this
    omega
theorem and_all : ∀ c : Fin 256, Go.bits .and .u8 (c.1 : Int) 15 = (c.1 : Int) % 16 := by decide +kernel
theorem and_eq (c : Int) (h : 0 ≤ c ∧ c ≤ 255) : Go.bits .and .u8 c 15 = c % 16 := by
  have h1 := and_all ⟨c.toNat, by omega⟩
  have e : ((c.toNat : Nat) : Int) = c := by omega
  simp only [e] at h1
  exact h1
theorem hex_all : ∀ c : Fin 16, bt ⟨#[48, 49, 50, 51, 52, 53, 54, 55, 56, 57, 97, 98, 99, 100, 101, 102]⟩ (c.1 : Int) = Q.hexI (c.1 : Int) := by decide +kernel
theorem hex_eq (c : Int) (h0 : 0 ≤ c) (h1 : c < 16) : bt ⟨#[48, 49, 50, 51, 52, 53, 54, 55, 56, 57, 97, 98, 99, 100, 101, 102]⟩ c = Q.hexI c := by
  have h1 := hex_all ⟨c.toNat, by omega⟩
  have e : ((c.toNat : Nat) : Int) = c := by omega
  simp only [e] at h1
  exact h1
/-- Quote's answer -/
def quoB (s : ByteArray) : ByteArray := strOfNums (Q.quoteN (bytesOf s))
theorem quote_loop (s : ByteArray) (hs : s.size ≤ 35184372080640) : ∀ (d : Nat) (i : Int) (acc : List Int), 0 ≤ i → i ≤ s.size → (s.size : Int) - i ≤ d → acc.length ≤ 3 * i →
    Ev (fun k => word_Quote.l0 k s acc s.size i) (strOfNums (acc ++ ((bytesOf s).drop i.toNat).flatMap Q.word1)) := by
  intro d
  induction d with
  | zero =>
    intro i acc h0 h1 hd ha
    have hdrop : (bytesOf s).drop i.toNat = [] := List.drop_eq_nil_of_le (by rw [bytesOf_length]; omega)
    rw [hdrop]
    refine Ev.step (fun k => word_Quote.l0.eq_2 ..) ?_
    exact Ev.ifn (by omega) (Ev.eq (Ev.now _) (by simp))
  | succ d ih =>
    intro i acc h0 h1 hd ha
    by_cases hi : i < s.size
    · refine Ev.step (fun k => word_Quote.l0.eq_2 ..) ?_
      refine Ev.ifp hi (Ev.ifp h0 (Ev.ifp hi ?_))
      have hb := bt_range s i
      refine Ev.call (plain_ev (bt s i) hb) ?_
      rw [bytes_drop s i h0 hi, List.flatMap_cons, ← List.append_assoc]
      have w1 : wrap64 (i + 1) = i + 1 := w64_in (by omega) (by omega)
      by_cases hp : Q.plainI (bt s i) = true
      · refine Ev.ifp hp (Ev.ifp (by omega) ?_)
        rw [w1, show Q.word1 (bt s i) = [bt s i] by unfold Q.word1; rw [if_pos hp]]
        exact ih (i + 1) _ (by omega) (by omega) (by omega) (by simp; omega)
      · refine Ev.ifn hp ?_
        rw [and_eq _ hb, hex_eq _ (by omega) (by omega), hex_eq _ (by omega) (by omega)]
        refine Ev.ifp (by omega) (Ev.ifp (by omega) (Ev.ifp (by omega) (Ev.ifp (by omega) ?_)))
        refine Ev.call (Ev.now _) ?_
        refine Ev.ifp (by simp only [List.length_cons, List.length_nil]; omega) ?_
        rw [w1, show Q.word1 (bt s i) = [37, Q.hexI (bt s i / 16), Q.hexI (bt s i % 16)] by unfold Q.word1; rw [if_neg hp]]
        exact ih (i + 1) _ (by omega) (by omega) (by omega) (by simp; omega)
    · exact ih i acc h0 h1 (by omega) ha
theorem quote_ev (s : ByteArray) (hs : s.size ≤ 35184372080640) : Ev (fun k => word_Quote.f k s) (quoB s) := by
  unfold word_Quote.f
  by_cases h0 : s.toList = []
  · refine Ev.ifp h0 (Ev.eq (Ev.now _) ?_)
    have : bytesOf s = [] := List.eq_nil_of_length_eq_zero (by rw [bytesOf_length]; exact (empty_bytes s).1 h0)
    unfold quoB
    rw [this]
    rfl
  · refine Ev.ifn h0 (Ev.ifp (by omega) (Ev.ifp (by omega) ?_))
    refine Ev.eq (quote_loop s hs s.size 0 [] (by omega) (by omega) (by omega) (by simp)) ?_
    have : bytesOf s ≠ [] := by
      intro h
      apply h0
      rw [empty_bytes, ← bytesOf_length, h]
      rfl
    unfold quoB
    rw [Q.quoteN_ne this]
    rfl
theorem quoB_size (s : ByteArray) : (quoB s).size ≤ 3 * s.size + 1 := by
  unfold quoB
  rw [strOfNums_size]
  cases h : bytesOf s with
  | nil => simp [Q.quoteN]
  | cons c r =>
    have := Q.flat_length (c :: r)
    rw [← h, bytesOf_length] at this
    rw [Q.quoteN_ne (by simp), ← h]
    omega
theorem unq_quo (s : ByteArray) : unqB (quoB s) = (s, 0) := by
  unfold unqB quoB
  rw [bytes_str _ (Q.quoteN_bytes _ (bytes_Bs s)), Q.unquote_quote _ (bytes_Bs s)]
  simp only [str_bytes]
theorem unqB_or (w : ByteArray) : (∃ t, unqB w = (t, 0) ∧ quoB t = w) ∨ unqB w = (⟨#[]⟩, 3) := by
  unfold unqB
  cases h : Q.unquoteN (bytesOf w) with
  | none => exact .inr rfl
  | some l =>
    refine .inl ⟨_, rfl, ?_⟩
    unfold quoB
    rw [bytes_str _ (Q.unquote_bytes _ _ (bytes_Bs w) h), Q.quote_unquote _ _ h, str_bytes]
theorem unqB_size (w : ByteArray) : (unqB w).1.size ≤ w.size := by
  rcases unqB_or w with ⟨t, h, hq⟩ | h
  · rw [h]
    show t.size ≤ w.size
    have hl : ∀ l : List Int, l.length ≤ (l.flatMap Q.word1).length := by
      intro l
      induction l with
      | nil => simp
      | cons c r ih =>
        have : 0 < (Q.word1 c).length := List.length_pos_iff.2 (Q.word1_ne c)
        simp only [List.flatMap_cons, List.length_append, List.length_cons]
        omega
    rw [← hq]
    unfold quoB
    rw [strOfNums_size]
    cases hb : bytesOf t with
    | nil =>
      have : t.size = 0 := by rw [← bytesOf_length, hb]; rfl
      omega
    | cons c r => rw [Q.quoteN_ne (by simp), ← hb, ← bytesOf_length]; exact hl _
  · rw [h]
    exact Nat.zero_le _
end Go.Proofs.YtnnpolnpgghkgaaDoor.P
