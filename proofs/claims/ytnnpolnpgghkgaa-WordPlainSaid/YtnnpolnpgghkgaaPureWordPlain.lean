import Derived.Test.YtnnpolnpgghkgaaPx8
import Derived.Test.YtnnpolnpgghkgaaPHeads02
namespace Go.Proofs.Ytnnpolnpgghkgaa.Pure
open Go.RowKit Go.Proofs.Ytnnpolnpgghkgaa.P Go.Proofs.YtnnpolnpgghkgaaW.PrintWords Go.Proofs.YtnnpolnpgghkgaaW.PrintLast
theorem word1_seen (c : Int) : ∀ d ∈ Q.word1 c, (32 < d ∧ d < 127) ∨ ¬ (0 ≤ c ∧ c ≤ 255) := by
  intro d hd
  unfold Q.word1 at hd
  by_cases hp : Q.plainI c = true
  · rw [if_pos hp] at hd
    obtain rfl : d = c := by simpa using hd
    unfold Q.plainI at hp
    simp at hp
    omega
  · rw [if_neg hp] at hd
    by_cases hc : 0 ≤ c ∧ c ≤ 255
    · have e : ∀ x : Int, 0 ≤ x → x < 16 → 32 < Q.hexI x ∧ Q.hexI x < 127 := by intro x h0 h1; unfold Q.hexI; split <;> omega
      have e1 := e (c / 16) (by omega) (by omega)
      have e2 := e (c % 16) (by omega) (by omega)
      simp at hd
      rcases hd with rfl | rfl | rfl
      · exact .inl (by omega)
      · exact .inl e1
      · exact .inl e2
    · exact .inr hc
theorem word_seen (l : List Int) (h : Q.Bs l) : ∀ d ∈ Q.quoteN l, 32 < d ∧ d < 127 := by
  intro d hd
  cases l with
  | nil =>
    obtain rfl : d = 37 := by simpa [Q.quoteN] using hd
    omega
  | cons c r =>
    rw [Q.quoteN_ne (by simp)] at hd
    obtain ⟨c', hc, hd⟩ := List.mem_flatMap.1 hd
    rcases word1_seen c' d hd with h1 | h1
    · exact h1
    · exact absurd (h c' hc) h1
theorem quo_bytes (s : ByteArray) : bytesOf (quoB s) = Q.quoteN (bytesOf s) := by
  unfold quoB
  rw [bytes_str _ (Q.quoteN_bytes _ (bytes_Bs s))]
theorem quo_ne (s : ByteArray) : (quoB s).size ≠ 0 := by
  rw [← bytesOf_length, quo_bytes]
  cases h : bytesOf s with
  | nil => simp [Q.quoteN]
  | cons c r =>
    rw [Q.quoteN_ne (by simp)]
    have := Q.flat_ne (l := c :: r) (by simp)
    intro h0
    exact this (List.eq_nil_of_length_eq_zero h0)
theorem quo_inj (s t : ByteArray) (h : quoB s = quoB t) : s = t := by
  have h1 := unq_quo s
  rw [h, unq_quo] at h1
  exact (congrArg Prod.fst h1).symm
theorem plain_loop (s t : ByteArray) (hs : s.size ≤ 35184372080640) (ht : t.size ≤ 35184372080640) : ∀ (d : Nat) (i : Int), 0 ≤ i → i ≤ (quoB s).size → ((quoB s).size : Int) - i ≤ d →
    Ev (fun k => horariumlaw02_WordPlain.l0 k s t (quoB s) i) true := by
  have hq := quoB_size s
  have hend : Ev (fun k => if (quoB s).toList = ([] : List UInt8) then (some false) else ((word_Quote.f k t).bind fun t252 => (if (((quoB s).toList == t252.toList) == (s.toList == t.toList)) = true then ((horariumlaw02_heads.f k).bind fun t253 => (some t253)) else (some false)))) true := by
    refine Ev.ifn (fun h => quo_ne s ((empty_bytes _).1 h)) (Ev.call (quote_ev t ht) ?_)
    refine Ev.ifp ?_ heads_ev
    by_cases h : s = t
    · subst h
      simp
    · have h1 : (s.toList == t.toList) = false := by rw [beq_eq_false_iff_ne]; exact fun h2 => h ((toList_inj _ _).1 h2)
      have h2 : ((quoB s).toList == (quoB t).toList) = false := by rw [beq_eq_false_iff_ne]; exact fun h2 => h (quo_inj _ _ ((toList_inj _ _).1 h2))
      rw [h1, h2]
      rfl
  intro d
  induction d with
  | zero =>
    intro i h0 h1 hd
    refine Ev.step (fun k => horariumlaw02_WordPlain.l0.eq_2 ..) ?_
    exact Ev.ifn (by omega) hend
  | succ d ih =>
    intro i h0 h1 hd
    by_cases hi : i < (quoB s).size
    · refine Ev.step (fun k => horariumlaw02_WordPlain.l0.eq_2 ..) ?_
      have hb : 32 < bt (quoB s) i ∧ bt (quoB s) i < 127 := by
        apply word_seen (bytesOf s) (bytes_Bs s)
        rw [bt_get, quo_bytes]
        have hl : i.toNat < (Q.quoteN (bytesOf s)).length := by rw [← quo_bytes, bytesOf_length]; omega
        rw [List.getD_eq_getElem?_getD, List.getElem?_eq_getElem hl]
        exact List.getElem_mem hl
      refine Ev.ifp hi (Ev.ifp h0 (Ev.ifn (by omega) (Ev.ifn (by omega) ?_)))
      rw [w64_in (x := i + 1) (by omega) (by omega)]
      exact ih (i + 1) (by omega) (by omega) (by omega)
    · exact ih i h0 h1 (by omega)
theorem WordPlain : horariumlaw02_WordPlain.Pure := by
  intro a0 a1 h0 h1
  apply Ev.rounds
  unfold horariumlaw02_WordPlain.f
  by_cases c0 : (a0.size : Int) > 2000
  · refine Ev.ifp c0 (Ev.step (fun k => horariumlaw02_WordPlain.j0.eq_2 ..) ?_)
    exact Ev.ifp rfl heads_ev
  · refine Ev.ifn c0 (Ev.step (fun k => horariumlaw02_WordPlain.j0.eq_2 ..) ?_)
    by_cases c1 : (a1.size : Int) > 2000
    · exact Ev.ifp (decide_eq_true c1) heads_ev
    · refine Ev.ifn (by simpa using c1) ?_
      refine Ev.call (quote_ev a0 (by omega)) ?_
      exact plain_loop a0 a1 (by omega) (by omega) (quoB a0).size 0 (by omega) (by omega) (by omega)
end Go.Proofs.Ytnnpolnpgghkgaa.Pure
