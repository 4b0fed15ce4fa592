import Derived.Test.YtnagecfpbkffpaaDoorPBase
import Derived.Test.YtnagecfpbkffpaaDoorPDays
import Derived.Test.YtnagecfpbkffpaaDoorPx9
import Derived.Test.YtnagecfpbkffpaaDoorPx12
namespace Go.Proofs.YtnagecfpbkffpaaDoor.P
open Go.RowKit Go.Proofs.YtnagecfpbkffpaaDoorW.PrintWords
set_option linter.unusedVariables false
set_option linter.unusedSimpArgs false
theorem Ev.one {α : Type} {f : Nat → Option α} {a b : α} (h : Ev f a) (k : Ev f b) : a = b := by
  obtain ⟨n, h⟩ := h
  obtain ⟨m, k⟩ := k
  have h1 := h (n + m) (by omega)
  have h2 := k (n + m) (by omega)
  exact Option.some.inj (h1.symm.trans h2)
theorem days_eq (d : Int) (h0 : 0 ≤ d) (h1 : d ≤ 255) : clock_Days.f d = some (strOfNums (daysL d 7)) := if_pos ⟨h0, h1⟩
theorem idx_all : ∀ c : Fin 256, strings_IndexByte.f dayLetters (c.1 : Int) = some (-1) ∨ ∃ k : Fin 7, strings_IndexByte.f dayLetters (c.1 : Int) = some (k.1 : Int) ∧ bt dayLetters (k.1 : Int) = (c.1 : Int) := by decide +kernel
theorem or_day : ∀ k : Fin 7, ∀ d : Fin 128, d.1 < 2 ^ k.1 → Go.bits .or .u8 (d.1 : Int) (shl .u8 1 (k.1 : Int)) = ((d.1 + 2 ^ k.1 : Nat) : Int) ∧ daysL ((d.1 + 2 ^ k.1 : Nat) : Int) 7 = daysL (d.1 : Int) 7 ++ [bt dayLetters (k.1 : Int)] := by decide +kernel
theorem days_inj : ∀ d : Fin 128, ∀ e : Fin 128, daysL (d.1 : Int) 7 = daysL (e.1 : Int) 7 → d.1 = e.1 := by decide +kernel
theorem pd_back : ∀ d : Fin 256, clock_ParseDays.f 20 (strOfNums (daysL (d.1 : Int) 7)) = some (if d.1 % 128 = 0 then (0, 3) else (((d.1 % 128 : Nat) : Int), 0)) := by decide +kernel
def findD : Nat → Nat → List Int → Int × Int
  | 0, _, _ => (0, 3)
  | n + 1, d, l => if daysL (d : Int) 7 = l then ((d : Int), 0) else findD n (d + 1) l
def pdB (s : ByteArray) : Int × Int := findD 127 1 (bytesOf s)
theorem findD_or (n : Nat) : ∀ d l, (findD n d l = (0, 3) ∧ ∀ e, d ≤ e → e < d + n → daysL (e : Int) 7 ≠ l) ∨ ∃ e : Nat, d ≤ e ∧ e < d + n ∧ findD n d l = ((e : Int), 0) ∧ daysL (e : Int) 7 = l := by
  induction n with
  | zero => intro d l; exact .inl ⟨rfl, fun e h1 h2 => by omega⟩
  | succ n ih =>
    intro d l
    rw [findD]
    by_cases h : daysL (d : Int) 7 = l
    · rw [if_pos h]; exact .inr ⟨d, Nat.le_refl _, by omega, rfl, h⟩
    · rw [if_neg h]
      rcases ih (d + 1) l with ⟨h1, h2⟩ | ⟨e, h1, h2, h3⟩
      · refine .inl ⟨h1, fun e h3 h4 => ?_⟩
        rcases Nat.eq_or_lt_of_le h3 with rfl | h5
        · exact h
        · exact h2 e h5 (by omega)
      · exact .inr ⟨e, by omega, by omega, h3⟩
theorem pdB_or (s : ByteArray) : (pdB s = (0, 3) ∧ ∀ e : Nat, 1 ≤ e → e < 128 → daysL (e : Int) 7 ≠ bytesOf s) ∨ ∃ e : Nat, 1 ≤ e ∧ e < 128 ∧ pdB s = ((e : Int), 0) ∧ daysL (e : Int) 7 = bytesOf s := findD_or 127 1 (bytesOf s)
theorem pdB_hit (s : ByteArray) (d : Nat) (h0 : 1 ≤ d) (h1 : d < 128) (h : bytesOf s = daysL (d : Int) 7) : pdB s = ((d : Int), 0) := by
  rcases pdB_or s with ⟨_, h2⟩ | ⟨e, h2, h3, h4, h5⟩
  · exact absurd h.symm (h2 d h0 h1)
  · have := days_inj ⟨d, h1⟩ ⟨e, h3⟩ (h.symm.trans h5.symm)
    rw [h4]
    simp only at this
    rw [this]
theorem pd_loop (s : ByteArray) (hs : s.size ≤ 140737488351232) : ∀ (n : Nat) (i : Int) (d t : Nat), 0 ≤ i → i ≤ s.size → (s.size : Int) - i ≤ n → t ≤ 7 → d < 2 ^ t → (bytesOf s).take i.toNat = daysL (d : Int) 7 →
    ∃ r, Ev (fun k => clock_ParseDays.l0 k s (d : Int) ((t : Int) - 1) s.size i) r ∧ (r = (0, 3) ∨ ∃ e : Nat, r = ((e : Int), 0) ∧ 1 ≤ e ∧ e < 128 ∧ bytesOf s = daysL (e : Int) 7) := by
  have hend : ∀ (i : Int) (d t : Nat), i = s.size → t ≤ 7 → d < 2 ^ t → (bytesOf s).take i.toNat = daysL (d : Int) 7 →
      ∃ r, Ev (fun k => clock_ParseDays.l0 k s (d : Int) ((t : Int) - 1) s.size i) r ∧ (r = (0, 3) ∨ ∃ e : Nat, r = ((e : Int), 0) ∧ 1 ≤ e ∧ e < 128 ∧ bytesOf s = daysL (e : Int) 7) := by
    intro i d t hi ht hd h
    rw [List.take_of_length_le (by rw [bytesOf_length]; omega)] at h
    have h128 : 2 ^ t ≤ 2 ^ 7 := Nat.pow_le_pow_right (by decide) ht
    by_cases h0 : (d : Int) = 0
    · exact ⟨_, Ev.step (fun k => clock_ParseDays.l0.eq_2 ..) (Ev.ifn (by omega) (Ev.ifp h0 (Ev.now _))), .inl rfl⟩
    · exact ⟨_, Ev.step (fun k => clock_ParseDays.l0.eq_2 ..) (Ev.ifn (by omega) (Ev.ifn h0 (Ev.now _))), .inr ⟨d, rfl, by omega, by omega, h⟩⟩
  intro n
  induction n with
  | zero => intro i d t h0 h1 hn ht hd h; exact hend i d t (by omega) ht hd h
  | succ n ih =>
    intro i d t h0 h1 hn ht hd h
    by_cases hi : i < s.size
    · have hr := bt_range s i
      have h128 : 2 ^ t ≤ 2 ^ 7 := Nat.pow_le_pow_right (by decide) ht
      have hidx := idx_all ⟨(bt s i).toNat, by omega⟩
      have e : (((bt s i).toNat : Nat) : Int) = bt s i := by omega
      simp only [e] at hidx
      rcases hidx with h2 | ⟨⟨j, hj⟩, h2, h3⟩
      · exact ⟨_, Ev.step (fun k => clock_ParseDays.l0.eq_2 ..) (Ev.ifp hi (Ev.ifp h0 (Ev.ifp hi (Ev.call (Ev.const h2) (Ev.ifp (by omega) (Ev.now _)))))), .inl rfl⟩
      · simp only at h2 h3
        by_cases hjt : j < t
        · exact ⟨_, Ev.step (fun k => clock_ParseDays.l0.eq_2 ..) (Ev.ifp hi (Ev.ifp h0 (Ev.ifp hi (Ev.call (Ev.const h2) (Ev.ifp (by omega) (Ev.now _)))))), .inl rfl⟩
        · have hp : 2 ^ t ≤ 2 ^ j := Nat.pow_le_pow_right (by decide) (by omega)
          obtain ⟨h4, h5⟩ := or_day ⟨j, hj⟩ ⟨d, by omega⟩ (by show d < 2 ^ j; omega)
          simp only at h4 h5
          have hp2 : 2 ^ (j + 1) = 2 ^ j + 2 ^ j := by rw [Nat.pow_succ]; omega
          obtain ⟨r, hr1, hr2⟩ := ih (i + 1) (d + 2 ^ j) (j + 1) (by omega) (by omega) (by omega) (by omega) (by omega) (by
            rw [h5, ← h, h3]
            have hl : i.toNat < (bytesOf s).length := by rw [bytesOf_length]; omega
            rw [show (i + 1).toNat = i.toNat + 1 by omega, List.take_succ_eq_append_getElem hl, bt_get]
            simp [List.getD_eq_getElem?_getD, hl])
          refine ⟨r, Ev.step (fun k => clock_ParseDays.l0.eq_2 ..) (Ev.ifp hi (Ev.ifp h0 (Ev.ifp hi (Ev.call (Ev.const h2) (Ev.ifn (by omega) (Ev.ifp (by omega) ?_)))))), hr2⟩
          rw [h4, w64_in (by omega) (by omega)]
          have ej : ((j + 1 : Nat) : Int) - 1 = (j : Int) := by omega
          rw [ej] at hr1
          exact hr1
    · exact hend i d t (by omega) ht hd h
theorem pd_ev (s : ByteArray) (hs : s.size ≤ 140737488351232) : Ev (fun k => clock_ParseDays.f k s) (pdB s) := by
  obtain ⟨r, h1, h2⟩ := pd_loop s hs s.size 0 0 0 (by omega) (by omega) (by omega) (by omega) (by decide) (by rw [Int.toNat_zero, List.take_zero]; decide)
  have h3 : Ev (fun k => clock_ParseDays.f k s) r := h1
  rcases h2 with rfl | ⟨e, rfl, h4, h5, h6⟩
  · rcases pdB_or s with ⟨h7, _⟩ | ⟨e, h4, h5, h7, h8⟩
    · rw [h7]; exact h3
    · exfalso
      have h9 := pd_back ⟨e, by omega⟩
      simp only at h9
      rw [h8, str_bytes, if_neg (by omega)] at h9
      have h10 := Ev.one h3 (Ev.of (fun k => clock_ParseDays.mono s k) h9)
      simp at h10
  · rw [pdB_hit s e h4 h5 h6]
    exact h3
end Go.Proofs.YtnagecfpbkffpaaDoor.P
