import Derived.Test.YtnnpolnpgghkgaaPWord
import Derived.Test.YtnnpolnpgghkgaaPx6
/-! What the document's Unquote answers: the same. -/
namespace Go.Proofs.Ytnnpolnpgghkgaa.Q
def dec : List Int → Option (List Int)
  | [] => some []
  | [c] => if c = 37 then none else some [c]
  | [c, a] => if c = 37 then none else (dec [a]).map (c :: ·)
  | c :: a :: b :: r => if c = 37 then (if hexv a < 0 ∨ hexv b < 0 then none else (dec r).map ((16 * hexv a + hexv b) :: ·)) else (dec (a :: b :: r)).map (c :: ·)
theorem dec_plain (c : Int) (h : c ≠ 37) : ∀ r, dec (c :: r) = (dec r).map (c :: ·)
  | [] => by simp [dec, h]
  | [a] => by rw [show dec [c, a] = (if c = 37 then none else (dec [a]).map (c :: ·)) from rfl, if_neg h]
  | a :: b :: r => by rw [dec, if_neg h]
theorem dec_mark (a b : Int) (r : List Int) : dec (37 :: a :: b :: r) = if hexv a < 0 ∨ hexv b < 0 then none else (dec r).map ((16 * hexv a + hexv b) :: ·) := by rw [dec, if_pos rfl]
theorem dec_none (r : List Int) (hr : r.length < 2) : dec (37 :: r) = none := by
  match r, hr with
  | [], _ => rfl
  | [a], _ => rfl
theorem dec_word1 (c : Int) (h : 0 ≤ c ∧ c ≤ 255) (r : List Int) : dec (word1 c ++ r) = (dec r).map (c :: ·) := by
  unfold word1
  by_cases hp : plainI c = true
  · rw [if_pos hp]
    refine dec_plain c ?_ r
    rintro rfl
    rw [plain_mark] at hp
    cases hp
  · rw [if_neg hp]
    show dec (37 :: hexI (c / 16) :: hexI (c % 16) :: r) = _
    rw [dec_mark, hexv_hexI _ (by omega) (by omega), hexv_hexI _ (by omega) (by omega), if_neg (by omega)]
    rw [show 16 * (c / 16) + c % 16 = c by omega]
theorem dec_flat (l : List Int) (h : Bs l) : dec (l.flatMap word1) = some l := by
  induction l with
  | nil => rfl
  | cons c l ih =>
    obtain ⟨hc, hl⟩ := h.cons
    rw [List.flatMap_cons, dec_word1 c hc, ih hl]
    rfl
theorem dec_bytes : ∀ (n : Nat) (w l : List Int), w.length ≤ n → dec w = some l → Bs w → Bs l ∧ l.length ≤ w.length := by
  intro n
  induction n with
  | zero =>
    intro w l hn h hb
    match w, hn, h with
    | [], _, h => obtain rfl : [] = l := by simpa [dec] using h
                  exact ⟨hb, Nat.le_refl _⟩
  | succ n ih =>
    intro w l hn h hb
    match w, hn, h, hb with
    | [], _, h, hb => obtain rfl : [] = l := by simpa [dec] using h
                      exact ⟨hb, Nat.le_refl _⟩
    | c :: r, hn, h, hb =>
      by_cases hc : c = 37
      · subst hc
        match r, hn, h, hb with
        | [], _, h, _ => cases h
        | [a], _, h, _ => cases h
        | a :: b :: r, hn, h, hb =>
          rw [dec_mark] at h
          by_cases hx : hexv a < 0 ∨ hexv b < 0
          · rw [if_pos hx] at h
            cases h
          · rw [if_neg hx] at h
            obtain ⟨l', h', rfl⟩ := Option.map_eq_some_iff.1 h
            have h3 := ih r l' (by simp at hn; omega) h' hb.cons.2.cons.2.cons.2
            have ha := (hexI_hexv a (by omega)).2
            have hb' := (hexI_hexv b (by omega)).2
            exact ⟨Bs.mk (by omega) h3.1, by simp only [List.length_cons]; omega⟩
      · rw [dec_plain c hc] at h
        obtain ⟨l', h', rfl⟩ := Option.map_eq_some_iff.1 h
        have h3 := ih r l' (by simp at hn; omega) h' hb.cons.2
        exact ⟨Bs.mk hb.cons.1 h3.1, by simp only [List.length_cons]; omega⟩
end Go.Proofs.Ytnnpolnpgghkgaa.Q
namespace Go.Proofs.Ytnnpolnpgghkgaa.P
open Go.RowKit Go.Proofs.YtnnpolnpgghkgaaW.PrintWords
set_option linter.unusedVariables false
set_option linter.unusedSimpArgs false
theorem rdigit_all : ∀ c : Fin 256, horariumref02_digit.f 20 (c.1 : Int) = some (Q.hexv (c.1 : Int)) := by decide +kernel
theorem rdigit_ev (c : Int) (h : 0 ≤ c ∧ c ≤ 255) : Ev (fun k => horariumref02_digit.f k c) (Q.hexv c) := by
  have h1 := rdigit_all ⟨c.toNat, by omega⟩
  have e : ((c.toNat : Nat) : Int) = c := by omega
  simp only [e] at h1
  exact Ev.of (horariumref02_digit.mono c) h1
theorem refQuote_eq (s : ByteArray) (h : s.size ≤ 140737488351232) : horariumref02_Quote.f s = some (quoB s) := by
  unfold horariumref02_Quote.f
  rw [if_pos h]
  rfl
/-- what the document's Unquote answers, from an index on -/
def decAns (w : ByteArray) (acc : List Int) : Option (List Int) → ByteArray × Int
  | some l => if quoB (strOfNums (acc ++ l)) = w then (strOfNums (acc ++ l), 0) else (⟨#[]⟩, 3)
  | none => (⟨#[]⟩, 3)
theorem decAns_map (w : ByteArray) (acc : List Int) (c : Int) (o : Option (List Int)) : decAns w (acc ++ [c]) o = decAns w acc (o.map (c :: ·)) := by
  cases o with
  | none => rfl
  | some l => simp [decAns]
theorem refunq_loop (w : ByteArray) (hw : w.size ≤ 140737488351232) : ∀ (d : Nat) (i : Int) (acc : List Int), 0 ≤ i → i ≤ w.size → (w.size : Int) - i ≤ d → acc.length ≤ i →
    Ev (fun k => horariumref02_Unquote.l0 k w acc i) (decAns w acc (Q.dec ((bytesOf w).drop i.toNat))) := by
  intro d
  induction d with
  | zero =>
    intro i acc h0 h1 hd ha
    have hdrop : (bytesOf w).drop i.toNat = [] := List.drop_eq_nil_of_le (by rw [bytesOf_length]; omega)
    rw [hdrop]
    refine Ev.step (fun k => horariumref02_Unquote.l0.eq_2 ..) ?_
    refine Ev.ifn (by omega) ?_
    refine Ev.call (Ev.const (refQuote_eq _ (by rw [strOfNums_size]; omega))) ?_
    simp only [Q.dec, decAns, List.append_nil]
    by_cases hq : quoB (strOfNums acc) = w
    · rw [if_pos hq]
      exact Ev.ifp ((toList_inj _ _).2 hq) (Ev.now _)
    · rw [if_neg hq]
      exact Ev.ifn (fun h => hq ((toList_inj _ _).1 h)) (Ev.now _)
  | succ d ih =>
    intro i acc h0 h1 hd ha
    by_cases hi : i < w.size
    · refine Ev.step (fun k => horariumref02_Unquote.l0.eq_2 ..) ?_
      refine Ev.ifp hi (Ev.ifp h0 ?_)
      have hb := bt_range w i
      have w1 : wrap64 (i + 1) = i + 1 := w64_in (by omega) (by omega)
      have w2 : wrap64 (i + 2) = i + 2 := w64_in (by omega) (by omega)
      have w3 : wrap64 (i + 2 + 1) = i + 3 := by rw [w64_in (by omega) (by omega)]; omega
      rw [bytes_drop w i h0 hi]
      by_cases hm : bt w i = 37
      · refine Ev.ifp hm ?_
        rw [w1, w2, hm]
        by_cases h2 : i + 2 ≥ (w.size : Int)
        · refine Ev.ifp h2 ?_
          refine Ev.step (fun k => horariumref02_Unquote.j1.eq_2 ..) ?_
          refine Ev.ifp rfl (Ev.eq (Ev.now _) ?_)
          rw [Q.dec_none _ (by rw [List.length_drop, bytesOf_length]; omega)]
          rfl
        · have hb1 := bt_range w (i + 1)
          have hb2 := bt_range w (i + 2)
          refine Ev.ifn h2 (Ev.ifp (by omega) (Ev.ifp (by omega) ?_))
          refine Ev.call (rdigit_ev _ hb1) ?_
          rw [bytes_drop w (i + 1) (by omega) (by omega), show (i + 1 + 1 : Int) = i + 2 by omega, bytes_drop w (i + 2) (by omega) (by omega), show (i + 2 + 1 : Int) = i + 3 by omega, Q.dec_mark]
          by_cases ha1 : Q.hexv (bt w (i + 1)) < 0
          · refine Ev.ifp ha1 ?_
            refine Ev.step (fun k => horariumref02_Unquote.j1.eq_2 ..) ?_
            refine Ev.ifp rfl (Ev.eq (Ev.now _) ?_)
            rw [if_pos (.inl ha1)]
            rfl
          · refine Ev.ifn ha1 (Ev.ifp (by omega) (Ev.ifp (by omega) ?_))
            refine Ev.call (rdigit_ev _ hb2) ?_
            refine Ev.step (fun k => horariumref02_Unquote.j1.eq_2 ..) ?_
            by_cases ha2 : Q.hexv (bt w (i + 2)) < 0
            · refine Ev.ifp (decide_eq_true ha2) (Ev.eq (Ev.now _) ?_)
              rw [if_pos (.inr ha2)]
              rfl
            · refine Ev.ifn (by simpa using ha2) ?_
              rw [w1, w2]
              refine Ev.ifp (by omega) (Ev.ifp (by omega) ?_)
              refine Ev.call (rdigit_ev _ hb1) ?_
              refine Ev.ifp (by omega) (Ev.ifp (by omega) ?_)
              refine Ev.call (rdigit_ev _ hb2) ?_
              refine Ev.ifp (by omega) ?_
              have g1 := hexv_range (bt w (i + 1))
              have g2 := hexv_range (bt w (i + 2))
              rw [if_neg (by omega), ← decAns_map, w3]
              have hv : wrap64 (wrap64 (16 * Q.hexv (bt w (i + 1))) + Q.hexv (bt w (i + 2))) % 256 = 16 * Q.hexv (bt w (i + 1)) + Q.hexv (bt w (i + 2)) := by
                rw [w64_in (x := 16 * Q.hexv (bt w (i + 1))) (by omega) (by omega), w64_in (by omega) (by omega)]
                omega
              rw [hv]
              exact ih (i + 3) _ (by omega) (by omega) (by omega) (by simp; omega)
      · refine Ev.ifn hm (Ev.ifp (by omega) ?_)
        rw [w1, Q.dec_plain _ hm, ← decAns_map]
        exact ih (i + 1) _ (by omega) (by omega) (by omega) (by simp; omega)
    · exact ih i acc h0 h1 (by omega) ha
theorem refunq_ev (w : ByteArray) (hw : w.size ≤ 140737488351232) : Ev (fun k => horariumref02_Unquote.f k w) (unqB w) := by
  unfold horariumref02_Unquote.f
  have hb : (w.toList = [37]) ↔ bytesOf w = [37] := by
    have := toList_bytes w ⟨#[37]⟩
    rw [show (⟨#[37]⟩ : ByteArray).toList = [37] by rw [ByteArray.toList_eq]] at this
    exact this
  by_cases h1 : w.toList = [37]
  · refine Ev.ifp h1 (Ev.eq (Ev.now _) ?_)
    unfold unqB Q.unquoteN
    rw [if_pos (hb.1 h1)]
    rfl
  · refine Ev.ifn h1 (Ev.eq (refunq_loop w hw w.size 0 [] (by omega) (by omega) (by omega) (by simp)) ?_)
    show decAns w [] (Q.dec (bytesOf w)) = _
    unfold unqB
    cases hu : Q.unquoteN (bytesOf w) with
    | some l =>
      have hq := Q.quote_unquote _ _ hu
      have hbs := Q.unquote_bytes _ _ (bytes_Bs w) hu
      have hl : l ≠ [] := by
        rintro rfl
        exact h1 (hb.2 hq.symm)
      have hd : Q.dec (bytesOf w) = some l := by rw [← hq, Q.quoteN_ne hl]; exact Q.dec_flat l hbs
      rw [hd]
      simp only [decAns, List.nil_append]
      rw [if_pos]
      unfold quoB
      rw [bytes_str _ hbs, hq, str_bytes]
    | none =>
      cases hd : Q.dec (bytesOf w) with
      | none => rfl
      | some l =>
        have hbs := (Q.dec_bytes _ _ _ (Nat.le_refl _) hd (bytes_Bs w)).1
        simp only [decAns, List.nil_append]
        rw [if_neg]
        intro hq
        unfold quoB at hq
        rw [bytes_str _ hbs] at hq
        have h3 := congrArg bytesOf hq
        rw [bytes_str _ (Q.quoteN_bytes _ hbs)] at h3
        rw [← h3, Q.unquote_quote _ hbs] at hu
        cases hu
end Go.Proofs.Ytnnpolnpgghkgaa.P
