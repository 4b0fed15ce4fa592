import Derived.Test.YtnagecfpbkffpaaDoorPDays
import Derived.Test.YtnagecfpbkffpaaDoorPx10
import Derived.Lib.Join
import Derived.Lib.Bytealg
import Derived.Test.YtnagecfpbkffpaaDoorPx4
import Derived.Test.YtnagecfpbkffpaaDoorPx8
import Derived.Test.YtnagecfpbkffpaaDoorPx7
import Derived.Laws.BitsAllLaws
import Derived.Test.YtnagecfpbkffpaaDoorPx9
section
namespace Go.Proofs.YtnagecfpbkffpaaDoor.P
open Go.RowKit Go.Proofs.YtnagecfpbkffpaaDoorW.PrintWords
theorem heads_eq : horariumlaw10_heads.f 60 = some true := by decide +kernel
theorem heads_ev : Ev (fun k => (horariumlaw10_heads.f k).bind fun t => some t) true := Ev.call (Ev.of horariumlaw10_heads.mono heads_eq) (Ev.now _)
theorem u8_wf {a : Int} (h : (Lit.int .u8 a).wf = true) : 0 ≤ a ∧ a ≤ 255 := by
  have h2 : IntKind.u8.min ≤ a ∧ a ≤ IntKind.u8.max := by simpa [Lit.wf] using h
  rw [show IntKind.u8.min = 0 by decide, show IntKind.u8.max = 255 by decide] at h2
  exact h2
theorem u32_wf {a : Int} (h : (Lit.int .u32 a).wf = true) : 0 ≤ a ∧ a ≤ 4294967295 := by
  have h2 : IntKind.u32.min ≤ a ∧ a ≤ IntKind.u32.max := by simpa [Lit.wf] using h
  rw [show IntKind.u32.min = 0 by decide, show IntKind.u32.max = 4294967295 by decide] at h2
  exact h2
end Go.Proofs.YtnagecfpbkffpaaDoor.P
end
section
namespace Go.Proofs.YtnagecfpbkffpaaDoor.Q
def piecesA (c : Int) : List Int → List Int → List (List Int)
  | pre, [] => [pre]
  | pre, b :: r => if b = c then pre :: piecesA c [] r else piecesA c (pre ++ [b]) r
theorem piecesA_free (c : Int) (p : List Int) (h : c ∉ p) : ∀ pre, piecesA c pre p = [pre ++ p] := by
  induction p with
  | nil => intro pre; simp [piecesA]
  | cons b r ih =>
    intro pre
    have hb : b ≠ c := fun he => h (by simp [he])
    rw [piecesA, if_neg hb, ih (fun hr => h (by simp [hr]))]
    simp
theorem piecesA_cut (c : Int) (p r : List Int) (h : c ∉ p) : ∀ pre, piecesA c pre (p ++ c :: r) = (pre ++ p) :: piecesA c [] r := by
  induction p with
  | nil => intro pre; rw [List.nil_append, piecesA, if_pos rfl]; simp
  | cons b p ih =>
    intro pre
    have hb : b ≠ c := fun he => h (by simp [he])
    rw [List.cons_append, piecesA, if_neg hb, ih (fun hr => h (by simp [hr]))]
    simp
theorem piecesA_length (c : Int) (l : List Int) : ∀ pre, (piecesA c pre l).length ≤ l.length + 1 := by
  induction l with
  | nil => intro pre; simp [piecesA]
  | cons b r ih =>
    intro pre
    unfold piecesA
    split
    · have := ih []; simp only [List.length_cons]; omega
    · have := ih (pre ++ [b]); simp only [List.length_cons]; omega
theorem piecesA_size (c : Int) (l : List Int) : ∀ pre, ∀ p ∈ piecesA c pre l, p.length ≤ pre.length + l.length := by
  induction l with
  | nil => intro pre p hp; simp [piecesA] at hp; subst hp; simp
  | cons b r ih =>
    intro pre p hp
    unfold piecesA at hp
    split at hp
    · rcases List.mem_cons.1 hp with rfl | hp
      · simp
      · have := ih [] p hp; simp at this ⊢; omega
    · have := ih (pre ++ [b]) p hp; simp at this ⊢; omega
theorem piecesA_Bs (c : Int) (l : List Int) (hl : Bs l) : ∀ pre, Bs pre → ∀ p ∈ piecesA c pre l, Bs p := by
  induction l with
  | nil => intro pre hp p h; simp [piecesA] at h; subst h; exact hp
  | cons b r ih =>
    intro pre hpre p hp
    unfold piecesA at hp
    split at hp
    · rcases List.mem_cons.1 hp with rfl | hp
      · exact hpre
      · exact ih hl.cons.2 [] (fun _ h => by cases h) p hp
    · exact ih hl.cons.2 _ (hpre.append (Bs.mk hl.cons.1 (fun _ h => by cases h))) p hp
theorem pieces_index (c : UInt8) (l : List UInt8) : ∀ pre : List Int,
    (Lib.indexByte l c = -1 ∧ piecesA (c.toNat : Int) pre (nums l) = [pre ++ nums l]) ∨
    ∃ j : Nat, Lib.indexByte l c = j ∧ j < l.length ∧ piecesA (c.toNat : Int) pre (nums l) = (pre ++ nums (l.take j)) :: piecesA (c.toNat : Int) [] (nums (l.drop (j + 1))) := by
  induction l with
  | nil => intro pre; exact .inl ⟨rfl, by simp [nums, piecesA]⟩
  | cons b l ih =>
    intro pre
    by_cases hb : b = c
    · subst hb
      refine .inr ⟨0, by simp [Lib.indexByte], by simp, ?_⟩
      show piecesA _ pre ((b.toNat : Int) :: nums l) = _
      rw [piecesA, if_pos rfl]
      simp [nums]
    · have hbc : ((b.toNat : Nat) : Int) ≠ (c.toNat : Int) := by
        intro h
        exact hb (UInt8.toNat_inj.1 (by omega))
      have hstep : piecesA (c.toNat : Int) pre (nums (b :: l)) = piecesA (c.toNat : Int) (pre ++ [(b.toNat : Int)]) (nums l) := by
        show piecesA _ pre ((b.toNat : Int) :: nums l) = _
        rw [piecesA, if_neg hbc]
      rcases ih (pre ++ [(b.toNat : Int)]) with ⟨h1, h2⟩ | ⟨j, h1, h2, h3⟩
      · refine .inl ⟨by simp [Lib.indexByte, hb, h1], ?_⟩
        rw [hstep, h2]
        simp [nums]
      · refine .inr ⟨j + 1, ?_, by simp; omega, ?_⟩
        · have : ¬ ((j : Int) = -1) := by omega
          simp [Lib.indexByte, hb, h1, this]
        · rw [hstep, h3]
          simp [nums]
def joinN (c : Int) : List (List Int) → List Int
  | [] => []
  | [p] => p
  | p :: q :: ps => p ++ c :: joinN c (q :: ps)
theorem pieces_join (c : Int) : ∀ ps : List (List Int), ps ≠ [] → (∀ p ∈ ps, c ∉ p) → piecesA c [] (joinN c ps) = ps
  | [], h, _ => absurd rfl h
  | [p], _, h => by simpa [joinN] using piecesA_free c p (h p (by simp)) []
  | p :: q :: ps, _, h => by
    rw [joinN, piecesA_cut c p _ (h p (by simp)), pieces_join c (q :: ps) (by simp) (fun x hx => h x (by simp [hx]))]
    rfl
theorem joinN_length (c : Int) (m : Nat) : ∀ ps : List (List Int), (∀ p ∈ ps, p.length ≤ m) → (joinN c ps).length ≤ ps.length * (m + 1)
  | [], _ => by simp [joinN]
  | [p], h => by have := h p (by simp); simp only [joinN, List.length_cons, List.length_nil]; omega
  | p :: q :: ps, h => by
    have h1 := h p (by simp)
    have h2 := joinN_length c m (q :: ps) (fun x hx => h x (by simp [hx]))
    simp only [joinN, List.length_append, List.length_cons, Nat.succ_mul] at h2 ⊢
    omega
theorem joinN_bytes (c : Int) (hc : 0 ≤ c ∧ c ≤ 255) : ∀ ps : List (List Int), (∀ p ∈ ps, Bs p) → Bs (joinN c ps)
  | [], _ => fun _ h => by cases h
  | [p], h => h p (by simp)
  | p :: q :: ps, h => (h p (by simp)).append (Bs.mk hc (joinN_bytes c hc (q :: ps) (fun x hx => h x (by simp [hx]))))
end Go.Proofs.YtnagecfpbkffpaaDoor.Q
end
section
namespace Go.Proofs.YtnagecfpbkffpaaDoor.Q
set_option linter.unusedVariables false
set_option linter.unusedSimpArgs false
def dg : Nat → Nat → List Int
  | 0, _ => []
  | k + 1, n => if n < 10 then [48 + (n : Int)] else dg k (n / 10) ++ [48 + ((n % 10 : Nat) : Int)]
def dec (n : Nat) : List Int := dg 20 n
def digitI (c : Int) : Bool := decide (48 ≤ c ∧ c ≤ 57)
def valA : Nat → List Int → Nat
  | a, [] => a
  | a, c :: l => valA (10 * a + (c - 48).toNat) l
def shapedN (s : List Int) : Bool := s.all digitI && (decide (s.length = 1) || (decide (s.length > 1) && decide (s.getD 0 0 ≠ 48)))
def pwN (s : List Int) : Int × Int := if shapedN s then (if valA 0 s < 18446744073709551616 then ((valA 0 s : Nat), 0) else (0, 6)) else (0, 3)
theorem valA_add (l : List Int) : ∀ a, valA a l = a * 10 ^ l.length + valA 0 l := by
  induction l with
  | nil => intro a; simp [valA]
  | cons c l ih =>
    intro a
    rw [valA, ih, valA, ih (10 * 0 + (c - 48).toNat), List.length_cons, Nat.pow_succ]
    have : (10 * a + (c - 48).toNat) * 10 ^ l.length = a * (10 ^ l.length * 10) + (c - 48).toNat * 10 ^ l.length := by
      rw [Nat.add_mul, Nat.mul_comm (10 ^ l.length) 10, ← Nat.mul_assoc, Nat.mul_comm a 10]
    rw [this]
    simp only [Nat.mul_zero, Nat.zero_add]
    omega
theorem valA_lt (l : List Int) (h : l.all digitI = true) : valA 0 l < 10 ^ l.length := by
  induction l with
  | nil => simp [valA]
  | cons c l ih =>
    simp only [List.all_cons, Bool.and_eq_true, digitI, decide_eq_true_eq] at h
    have h2 := ih h.2
    rw [valA, valA_add, List.length_cons, Nat.pow_succ]
    have : (10 * 0 + (c - 48).toNat) ≤ 9 := by omega
    have := Nat.mul_le_mul_right (10 ^ l.length) this
    omega
theorem valA_ge (c : Int) (l : List Int) (h1 : 48 < c) (h2 : c ≤ 57) : 10 ^ l.length ≤ valA 0 (c :: l) := by
  rw [valA, valA_add]
  have : 1 ≤ (10 * 0 + (c - 48).toNat) := by omega
  have := Nat.mul_le_mul_right (10 ^ l.length) this
  omega
theorem valA_mono (l : List Int) (a : Nat) : a ≤ valA a l := by
  rw [valA_add]
  have : 1 ≤ 10 ^ l.length := Nat.one_le_pow _ _ (by decide)
  have := Nat.mul_le_mul_left a this
  omega
theorem valA_append (l m : List Int) : ∀ a, valA a (l ++ m) = valA (valA a l) m := by
  induction l with
  | nil => intro a; rfl
  | cons c l ih => intro a; exact ih _
theorem dg_step (m k : Nat) (h : ¬ m < 10) : dg (k + 1) m = dg k (m / 10) ++ [48 + ((m % 10 : Nat) : Int)] := by rw [dg, if_neg h]
theorem dg_val (k : Nat) : ∀ n, n < 10 ^ k → valA 0 (dg k n) = n := by
  induction k with
  | zero => intro n h; simp at h; subst h; rfl
  | succ k ih =>
    intro n h
    by_cases hn : n < 10
    · rw [dg, if_pos hn]
      simp only [valA]
      omega
    · rw [dg_step n k hn, valA_append, ih (n / 10) (by rw [Nat.pow_succ] at h; omega)]
      simp only [valA]
      omega
theorem dg_digits (k : Nat) : ∀ n, (dg k n).all digitI = true := by
  induction k with
  | zero => intro n; rfl
  | succ k ih =>
    intro n
    rw [dg]
    split
    · simp only [List.all_cons, List.all_nil, Bool.and_true, digitI, decide_eq_true_eq]; omega
    · rw [List.all_append, ih]
      simp only [List.all_cons, List.all_nil, Bool.and_true, Bool.true_and, digitI, decide_eq_true_eq]; omega
theorem dg_length (k : Nat) : ∀ n, (dg k n).length ≤ k := by
  induction k with
  | zero => intro n; exact Nat.le_refl _
  | succ k ih =>
    intro n
    rw [dg]
    split
    · simp
    · have := ih (n / 10)
      simp only [List.length_append, List.length_cons, List.length_nil]
      omega
theorem dg_of (k : Nat) : ∀ (l : List Int), l.length ≤ k → l.all digitI = true → (l.length = 1 ∨ l.length > 1 ∧ l.getD 0 0 ≠ 48) → dg k (valA 0 l) = l := by
  induction k with
  | zero => intro l h1 h2 h3; omega
  | succ k ih =>
    intro l h1 h2 h3
    rcases h3 with h3 | ⟨h3, h4⟩
    · obtain ⟨c, rfl⟩ := List.length_eq_one_iff.1 h3
      simp only [List.all_cons, List.all_nil, Bool.and_true, digitI, decide_eq_true_eq] at h2
      have e : (48 : Int) + ((valA 0 [c] : Nat) : Int) = c := by simp only [valA]; omega
      rw [dg, if_pos (by simp only [valA]; omega), e]
    · obtain ⟨m, c, rfl⟩ : ∃ m c, l = m ++ [c] := ⟨l.dropLast, l.getLast (by intro e; subst e; simp at h3), (List.dropLast_concat_getLast _).symm⟩
      simp only [List.length_append, List.length_cons, List.length_nil] at h1 h3
      rw [List.all_append, Bool.and_eq_true] at h2
      obtain ⟨h5, h6⟩ := h2
      simp only [List.all_cons, List.all_nil, Bool.and_true, digitI, decide_eq_true_eq] at h6
      cases m with
      | nil => simp at h3
      | cons x m =>
        simp only [List.cons_append, List.getD_cons_zero] at h4
        have h7 := h5
        simp only [List.all_cons, Bool.and_eq_true, digitI, decide_eq_true_eq] at h7
        have hge := valA_ge x m (by omega) h7.1.2
        have hp1 : 1 ≤ 10 ^ m.length := Nat.one_le_pow _ _ (by decide)
        rw [valA_append]
        simp only [valA]
        have hge2 : 1 ≤ valA (10 * 0 + (x - 48).toNat) m := by
          have : valA 0 (x :: m) = valA (10 * 0 + (x - 48).toNat) m := rfl
          omega
        rw [dg_step _ k (by omega)]
        have e1 : (10 * valA (10 * 0 + (x - 48).toNat) m + (c - 48).toNat) / 10 = valA 0 (x :: m) := by
          show _ = valA (10 * 0 + (x - 48).toNat) m
          omega
        have e2 : 48 + (((10 * valA (10 * 0 + (x - 48).toNat) m + (c - 48).toNat) % 10 : Nat) : Int) = c := by omega
        rw [e1, e2, ih (x :: m) (by simp only [List.length_cons] at h1 ⊢; omega) h5 (by
          rcases Nat.lt_or_ge (x :: m).length 2 with h | h
          · left; simp only [List.length_cons] at h ⊢; omega
          · right; exact ⟨by omega, h4⟩)]
theorem shaped_of (l : List Int) (h : shapedN l = true) : l.all digitI = true ∧ (l.length = 1 ∨ l.length > 1 ∧ l.getD 0 0 ≠ 48) := by
  unfold shapedN at h
  simp only [Bool.and_eq_true, Bool.or_eq_true, decide_eq_true_eq] at h
  exact h
theorem shaped_long (l : List Int) (h : shapedN l = true) (h2 : 20 < l.length) : 18446744073709551616 ≤ valA 0 l := by
  obtain ⟨h3, h4⟩ := shaped_of l h
  rcases h4 with h4 | ⟨_, h4⟩
  · omega
  · cases l with
    | nil => simp at h2
    | cons c l =>
      simp only [List.all_cons, Bool.and_eq_true, digitI, decide_eq_true_eq] at h3
      have h5 := valA_ge c l (by simp only [List.getD_cons_zero] at h4; omega) h3.1.2
      have h6 : 10 ^ 20 ≤ 10 ^ l.length := Nat.pow_le_pow_right (by decide) (by simp only [List.length_cons] at h2; omega)
      omega
theorem pw_of (l : List Int) (n : Int) (h : pwN l = (n, 0)) : 0 ≤ n ∧ n < 18446744073709551616 ∧ l = dec n.toNat := by
  unfold pwN at h
  by_cases hs : shapedN l = true
  · rw [if_pos hs] at h
    by_cases hv : valA 0 l < 18446744073709551616
    · rw [if_pos hv] at h
      have hn : n = (valA 0 l : Nat) := by simpa using h.symm
      have hl : l.length ≤ 20 := by
        rcases Nat.lt_or_ge 20 l.length with h2 | h2
        · have := shaped_long l hs h2; omega
        · exact h2
      obtain ⟨h3, h4⟩ := shaped_of l hs
      refine ⟨by omega, by omega, ?_⟩
      rw [hn, Int.toNat_natCast]
      exact (dg_of 20 l hl h3 h4).symm
    · rw [if_neg hv] at h
      simp at h
  · rw [if_neg hs] at h
    simp at h
theorem pw_code (l : List Int) : (pwN l).2 = 0 ∨ pwN l = (0, 3) ∨ pwN l = (0, 6) := by
  unfold pwN
  split
  · split
    · exact .inl rfl
    · exact .inr (.inr rfl)
  · exact .inr (.inl rfl)
theorem dec_digit (n : Nat) (c : Int) (h : c ∈ dec n) : 48 ≤ c ∧ c ≤ 57 := by
  have h := List.all_eq_true.1 (dg_digits 20 n) c h
  simpa only [digitI, decide_eq_true_eq] using h
theorem dec_length (n : Nat) : (dec n).length ≤ 20 := dg_length 20 n
end Go.Proofs.YtnagecfpbkffpaaDoor.Q
end
section
namespace Go.Proofs.YtnagecfpbkffpaaDoor.P
open Go.RowKit Go.Proofs.YtnagecfpbkffpaaDoorW.PrintWords
set_option linter.unusedVariables false
set_option linter.unusedSimpArgs false
theorem nums_bytes (s : ByteArray) : Q.nums s.data.toList = bytesOf s := rfl
theorem mk_str (l : List UInt8) : strOfNums (Q.nums l) = ⟨l.toArray⟩ := by
  unfold strOfNums Q.nums
  rw [List.map_map]
  have : ((fun n : Int => UInt8.ofNat n.toNat) ∘ fun b : UInt8 => (b.toNat : Int)) = id := by
    funext b
    simp
  rw [this, List.map_id]
theorem str_append (a b : List Int) : strOfNums a ++ strOfNums b = strOfNums (a ++ b) := by
  apply ByteArray.ext
  rw [ByteArray.data_append]
  apply Array.ext'
  simp [strOfNums]
end Go.Proofs.YtnagecfpbkffpaaDoor.P
end
section
namespace Go.Proofs.YtnagecfpbkffpaaDoor.P
open Go.RowKit Go.Proofs.YtnagecfpbkffpaaDoorW.PrintWords Go.Proofs.YtnagecfpbkffpaaDoorW.PrintLast Go.Proofs.YtnagecfpbkffpaaDoorW.PrintMore
attribute [local go_sem] max2_int min2_int max_two min_two max_three min_three max_four min_four   -- for this text's walks alone
set_option linter.unusedVariables false
set_option linter.unusedSimpArgs false
theorem horariumref01_ParseWord.gtr_turn : ∀ (a b : List UInt8), (!(Op.bytesLess a b || a == b)) = Op.bytesLess b a
  | [], [] => by decide
  | [], _ :: _ => by simp [Op.bytesLess]
  | _ :: _, [] => by simp [Op.bytesLess]
  | x :: a, y :: b => by
    have ih := horariumref01_ParseWord.gtr_turn a b
    rcases Nat.lt_trichotomy x.toNat y.toNat with h | h | h
    · have h1 : x < y := h
      have h2 : ¬ y < x := fun h' => Nat.lt_asymm h h'
      have h3 : ¬ y = x := fun e => by subst e; exact Nat.lt_irrefl _ h
      simp [Op.bytesLess, h1, h2, h3]
    · have e : x = y := UInt8.toNat_inj.1 h
      subst e
      have h1 : ¬ x < x := fun h' => Nat.lt_irrefl _ h'
      simpa [Op.bytesLess, h1] using ih
    · have h1 : y < x := h
      have h2 : ¬ x < y := fun h' => Nat.lt_asymm h h'
      have h3 : ¬ x = y := fun e => by subst e; exact Nat.lt_irrefl _ h
      simp [Op.bytesLess, h1, h2, h3]
def horariumref01_ParseWord.gt_0 (a : ByteArray) : Bool := Op.bytesLess [49, 56, 52, 52, 54, 55, 52, 52, 48, 55, 51, 55, 48, 57, 53, 53, 49, 54, 49, 53] a.toList
theorem horariumref01_ParseWord.gt_0_run (t : TypeId) (a : ByteArray) : Go.binOp .gtr t (.string a) (.string (⟨#[49, 56, 52, 52, 54, 55, 52, 52, 48, 55, 51, 55, 48, 57, 53, 53, 49, 54, 49, 53]⟩ : ByteArray)) = pure (.bool (horariumref01_ParseWord.gt_0 a)) := by
  rw [show Go.binOp .gtr t (.string a) (.string (⟨#[49, 56, 52, 52, 54, 55, 52, 52, 48, 55, 51, 55, 48, 57, 53, 53, 49, 54, 49, 53]⟩ : ByteArray)) = pure (.bool !(Op.bytesLess a.toList (⟨#[49, 56, 52, 52, 54, 55, 52, 52, 48, 55, 51, 55, 48, 57, 53, 53, 49, 54, 49, 53]⟩ : ByteArray).toList || a.toList == (⟨#[49, 56, 52, 52, 54, 55, 52, 52, 48, 55, 51, 55, 48, 57, 53, 53, 49, 54, 49, 53]⟩ : ByteArray).toList)) by simp [Go.binOp, Op.stringOp], horariumref01_ParseWord.gtr_turn, show (⟨#[49, 56, 52, 52, 54, 55, 52, 52, 48, 55, 51, 55, 48, 57, 53, 53, 49, 54, 49, 53]⟩ : ByteArray).toList = [49, 56, 52, 52, 54, 55, 52, 52, 48, 55, 51, 55, 48, 57, 53, 53, 49, 54, 49, 53] by decide +kernel]
  rfl
attribute [local go_sem] horariumref01_ParseWord.gt_0_run
end Go.Proofs.YtnagecfpbkffpaaDoor.P
end
section
namespace Go.Proofs.YtnagecfpbkffpaaDoor.P
open Go.RowKit Go.Proofs.YtnagecfpbkffpaaDoorW.PrintWords Go.Proofs.YtnagecfpbkffpaaDoorW.PrintLast Go.Proofs.YtnagecfpbkffpaaDoorW.PrintMore
attribute [local go_sem] max2_int min2_int max_two min_two max_three min_three max_four min_four   -- for this text's walks alone
set_option linter.unusedVariables false
set_option linter.unusedSimpArgs false
end Go.Proofs.YtnagecfpbkffpaaDoor.P
end
section
namespace Go.Proofs.YtnagecfpbkffpaaDoor.P
open Go.RowKit Go.Proofs.YtnagecfpbkffpaaDoorW.PrintWords Go.Proofs.YtnagecfpbkffpaaDoorW.PrintLast Go.Proofs.YtnagecfpbkffpaaDoorW.PrintMore
attribute [local go_sem] max2_int min2_int max_two min_two max_three min_three max_four min_four   -- for this text's walks alone
set_option linter.unusedVariables false
set_option linter.unusedSimpArgs false
end Go.Proofs.YtnagecfpbkffpaaDoor.P
end
section
namespace Go.Proofs.YtnagecfpbkffpaaDoor.P
open Go.RowKit Go.Proofs.YtnagecfpbkffpaaDoorW.PrintWords Go.Proofs.YtnagecfpbkffpaaDoorW.PrintLast Go.Proofs.YtnagecfpbkffpaaDoorW.PrintMore
attribute [local go_sem] max2_int min2_int max_two min_two max_three min_three max_four min_four   -- for this text's walks alone
set_option linter.unusedVariables false
set_option linter.unusedSimpArgs false
end Go.Proofs.YtnagecfpbkffpaaDoor.P
end
section
namespace Go.Proofs.YtnagecfpbkffpaaDoor.P
open Go.RowKit Go.Proofs.YtnagecfpbkffpaaDoorW.PrintWords Go.Proofs.YtnagecfpbkffpaaDoorW.PrintLast Go.Proofs.YtnagecfpbkffpaaDoorW.PrintMore
attribute [local go_sem] max2_int min2_int max_two min_two max_three min_three max_four min_four   -- for this text's walks alone
set_option linter.unusedVariables false
set_option linter.unusedSimpArgs false
end Go.Proofs.YtnagecfpbkffpaaDoor.P
end
section
namespace Go.Proofs.YtnagecfpbkffpaaDoor.P
open Go.RowKit Go.Proofs.YtnagecfpbkffpaaDoorW.PrintWords
set_option linter.unusedVariables false
set_option linter.unusedSimpArgs false
def decB (n : Nat) : ByteArray := strOfNums (Q.dec n)
theorem digs_eq (k : Nat) : ∀ n, digs k n = Q.dg k n := by
  induction k with
  | zero => intro n; rfl
  | succ k ih => intro n; rw [digs, Q.dg, ih]
theorem u64_in2 {x : Int} (h0 : 0 ≤ x) (h1 : x ≤ 18446744073709551615) : IntKind.u64.wrap x = x := IntWalk.u64_in _ ⟨h0, h1⟩
theorem print_eq (a : Int) (h0 : 0 ≤ a) (h1 : a ≤ 9223372036854775807) : digits_Print.f a = some (decB a.toNat) := by
  unfold digits_Print.f digits_Word.f
  rw [if_neg (by omega), u64_in2 h0 (by omega), if_pos ⟨h0, by omega⟩, digs_eq]
  rfl
theorem decB_size (n : Nat) : (decB n).size ≤ 20 := by unfold decB; rw [strOfNums_size]; exact Q.dec_length n
end Go.Proofs.YtnagecfpbkffpaaDoor.P
end
section
namespace Go.Proofs.YtnagecfpbkffpaaDoor.Q
set_option linter.unusedVariables false
set_option linter.unusedSimpArgs false
def endB (b : Nat → Bool) : Nat → Nat → Nat
  | 0, i => i - 1
  | n + 1, i => if b i then endB b n (i + 1) else i - 1
def runsB (b : Nat → Bool) : Bool → Nat → Nat → List (Nat × Nat)
  | _, 0, _ => []
  | within, n + 1, i => if b i then (if within then runsB b true n (i + 1) else (i, endB b n (i + 1)) :: runsB b true n (i + 1)) else runsB b false n (i + 1)
def runT (r : Nat × Nat) : List Int := dec (r.1 + 1) ++ if r.2 > r.1 then 45 :: dec (r.2 + 1) else []
def bitB (w : Nat) (i : Nat) : Bool := decide (w / 2 ^ i % 2 = 1)
def weeksL (w : Nat) : List Int := joinN 44 ((runsB (bitB w) false 20 0).map runT)
def numN (p : List Int) : Option Int := if (pwN p).2 = 0 ∧ p.length ≤ 2 then some (pwN p).1 else none
def runP (p : List Int) : Option (Int × Int) :=
  match piecesA 45 [] p with
  | [x] => (numN x).bind fun n => some (n, n)
  | [x, y] => (numN x).bind fun a => (numN y).bind fun b => if a < b then some (a, b) else none
  | _ => none
def pwkN : List (List Int) → Int → Nat → Bool → Int × Int
  | [], _, acc, fits => if fits then ((acc : Int), 0) else (0, 6)
  | p :: ps, next, acc, fits =>
    match runP p with
    | none => (0, 3)
    | some (a, b) => if a < next then (0, 3) else if a < 1 ∨ b > 20 then pwkN ps (b + 2) acc false else pwkN ps (b + 2) (acc + (2 ^ b.toNat - 2 ^ (a - 1).toNat)) fits
theorem endB_ge (b : Nat → Bool) (n : Nat) : ∀ i, i - 1 ≤ endB b n i := by
  induction n with
  | zero => intro i; exact Nat.le_refl _
  | succ n ih =>
    intro i
    rw [endB]
    split
    · have := ih (i + 1); omega
    · exact Nat.le_refl _
theorem endB_lt (b : Nat → Bool) (n : Nat) : ∀ i, 0 < i → endB b n i < i + n := by
  induction n with
  | zero => intro i h; show i - 1 < i + 0; omega
  | succ n ih =>
    intro i h
    rw [endB]
    split
    · have := ih (i + 1) (by omega); omega
    · omega
theorem runsB_length (b : Nat → Bool) (n : Nat) : ∀ within i, (runsB b within n i).length ≤ n := by
  induction n with
  | zero => intro within i; simp [runsB]
  | succ n ih =>
    intro within i
    have h1 := ih true (i + 1)
    have h2 := ih false (i + 1)
    rw [runsB]
    split
    · split
      · omega
      · simp only [List.length_cons]; omega
    · omega
theorem runT_length (r : Nat × Nat) : (runT r).length ≤ 41 := by
  have h1 := dec_length (r.1 + 1)
  have h2 := dec_length (r.2 + 1)
  unfold runT
  split
  · simp only [List.length_append, List.length_cons]; omega
  · simp only [List.append_nil]; omega
theorem runT_mem (r : Nat × Nat) (c : Int) (h : c ∈ runT r) : (48 ≤ c ∧ c ≤ 57) ∨ c = 45 := by
  unfold runT at h
  rcases List.mem_append.1 h with h | h
  · exact .inl (dec_digit _ c h)
  · split at h
    · rcases List.mem_cons.1 h with h | h
      · exact .inr h
      · exact .inl (dec_digit _ c h)
    · cases h
theorem runT_Bs (r : Nat × Nat) : Bs (runT r) := by
  intro c h
  rcases runT_mem r c h with h | h <;> omega
theorem numN_free (p : List Int) (c : Int) (hc : ¬ (48 ≤ c ∧ c ≤ 57)) (h : c ∈ p) : numN p = none := by
  unfold numN pwN
  have hs : shapedN p = false := by
    unfold shapedN
    have : p.all digitI = false := by
      rw [Bool.eq_false_iff]
      intro h2
      have := List.all_eq_true.1 h2 c h
      simp only [digitI, decide_eq_true_eq] at this
      exact hc this
    rw [this, Bool.false_and]
  rw [hs]
  simp
theorem numN_of (p : List Int) (n : Int) (h : numN p = some n) : 0 ≤ n ∧ n < 100 ∧ p = dec n.toNat := by
  unfold numN at h
  by_cases hc : (pwN p).2 = 0 ∧ p.length ≤ 2
  · rw [if_pos hc] at h
    have hn : (pwN p).1 = n := by simpa using h
    have hp : pwN p = (n, 0) := Prod.ext hn hc.1
    obtain ⟨h0, h1, h2⟩ := pw_of p n hp
    refine ⟨h0, ?_, h2⟩
    have hs : shapedN p = true := by
      unfold pwN at hp
      by_cases hs : shapedN p = true
      · exact hs
      · rw [if_neg hs] at hp; simp at hp
    have h3 := valA_lt p (shaped_of p hs).1
    have h4 : 10 ^ p.length ≤ 10 ^ 2 := Nat.pow_le_pow_right (by decide) hc.2
    have h5 : valA 0 p = n.toNat := by
      rw [h2]
      exact dg_val 20 _ (by omega)
    omega
  · rw [if_neg hc] at h
    cases h
theorem runP_runT : ∀ a : Fin 20, ∀ e : Fin 20, a.1 ≤ e.1 → runP (runT (a.1, e.1)) = some ((a.1 : Int) + 1, (e.1 : Int) + 1) := by decide +kernel
theorem piecesA_ne (c : Int) (l : List Int) : ∀ pre, piecesA c pre l ≠ [] := by
  induction l with
  | nil => intro pre; simp [piecesA]
  | cons x l ih => intro pre; rw [piecesA]; split; · simp
                   · exact ih _
theorem piecesA_out (c : Int) (l : List Int) : ∀ pre, c ∉ pre → ∀ p ∈ piecesA c pre l, c ∉ p := by
  induction l with
  | nil => intro pre h p hp; rw [piecesA, List.mem_singleton] at hp; rw [hp]; exact h
  | cons x l ih =>
    intro pre h p hp
    rw [piecesA] at hp
    split at hp
    · rcases List.mem_cons.1 hp with rfl | h2
      · exact h
      · exact ih [] (by simp) p h2
    · rename_i hx
      exact ih (pre ++ [x]) (by rw [List.mem_append, List.mem_singleton]; rintro (h2 | h2); exact h h2; exact hx h2.symm) p hp
theorem pieces_back (c : Int) (l : List Int) : ∀ pre, joinN c (piecesA c pre l) = pre ++ l := by
  induction l with
  | nil => intro pre; rw [piecesA, List.append_nil]; rfl
  | cons x l ih =>
    intro pre
    rw [piecesA]
    split
    · rename_i h
      subst h
      have h2 := ih []
      have hne := piecesA_ne x l []
      cases hp : piecesA x [] l with
        | nil => exact absurd hp hne
        | cons q qs =>
          rw [hp] at h2
          show pre ++ x :: joinN x (q :: qs) = pre ++ x :: l
          rw [h2]
          rfl
    · rw [ih, List.append_assoc]; rfl
theorem mod_bit (w i : Nat) : w % 2 ^ (i + 1) = w % 2 ^ i + if bitB w i then 2 ^ i else 0 := by
  rw [Nat.mod_pow_succ]
  unfold bitB
  by_cases h : w / 2 ^ i % 2 = 1
  · rw [if_pos (decide_eq_true h), h, Nat.mul_one]
  · rw [show w / 2 ^ i % 2 = 0 by omega]
    simp
theorem ones_end (w n : Nat) : ∀ j, 0 < j → w % 2 ^ (endB (bitB w) n j + 1) = w % 2 ^ j + (2 ^ (endB (bitB w) n j + 1) - 2 ^ j) := by
  induction n with
  | zero =>
    intro j h
    show w % 2 ^ (j - 1 + 1) = w % 2 ^ j + (2 ^ (j - 1 + 1) - 2 ^ j)
    rw [show j - 1 + 1 = j by omega]
    omega
  | succ n ih =>
    intro j h
    rw [endB]
    by_cases hb : bitB w j = true
    · rw [if_pos hb, ih (j + 1) (by omega), mod_bit, if_pos hb]
      have h1 := endB_ge (bitB w) n (j + 1)
      have h2 : 2 ^ (j + 1) ≤ 2 ^ (endB (bitB w) n (j + 1) + 1) := Nat.pow_le_pow_right (by decide) (by omega)
      have h3 : 2 ^ (j + 1) = 2 ^ j + 2 ^ j := by rw [Nat.pow_succ]; omega
      omega
    · rw [if_neg hb, show j - 1 + 1 = j by omega]
      omega
theorem pwk_runs (w n : Nat) : ∀ i, i + n ≤ 20 →
    (∀ next : Int, next ≤ (i : Int) + 1 → pwkN ((runsB (bitB w) false n i).map runT) next (w % 2 ^ i) true = (((w % 2 ^ (i + n) : Nat) : Int), 0)) ∧
    (0 < i → pwkN ((runsB (bitB w) true n i).map runT) ((endB (bitB w) n i : Int) + 3) (w % 2 ^ (endB (bitB w) n i + 1)) true = (((w % 2 ^ (i + n) : Nat) : Int), 0)) := by
  induction n with
  | zero =>
    intro i hi
    refine ⟨fun next hn => rfl, fun h => ?_⟩
    show ((((w % 2 ^ (i - 1 + 1) : Nat)) : Int), (0 : Int)) = _
    rw [show i - 1 + 1 = i by omega]
    rfl
  | succ n ih =>
    intro i hi
    obtain ⟨ih1, ih2⟩ := ih (i + 1) (by omega)
    rw [show i + (n + 1) = i + 1 + n by omega]
    by_cases hb : bitB w i = true
    · have hm := mod_bit w i
      rw [if_pos hb] at hm
      refine ⟨fun next hn => ?_, fun h => ?_⟩
      · rw [runsB, if_pos hb, if_neg (by decide), List.map_cons, pwkN]
        have h1 := endB_ge (bitB w) n (i + 1)
        have h2 := endB_lt (bitB w) n (i + 1) (by omega)
        have hr : runP (runT (i, endB (bitB w) n (i + 1))) = some ((i : Int) + 1, (endB (bitB w) n (i + 1) : Int) + 1) := runP_runT ⟨i, by omega⟩ ⟨endB (bitB w) n (i + 1), by omega⟩ (show i ≤ endB (bitB w) n (i + 1) by omega)
        rw [hr]
        simp only
        have h3 := ones_end w n (i + 1) (by omega)
        have h4 : 2 ^ (i + 1) ≤ 2 ^ (endB (bitB w) n (i + 1) + 1) := Nat.pow_le_pow_right (by decide) (by omega)
        have h5 : 2 ^ (i + 1) = 2 ^ i + 2 ^ i := by rw [Nat.pow_succ]; omega
        rw [if_neg (by omega), if_neg (by omega)]
        have e1 : ((endB (bitB w) n (i + 1) : Int) + 1).toNat = endB (bitB w) n (i + 1) + 1 := by omega
        have e2 : ((i : Int) + 1 - 1).toNat = i := by omega
        have e3 : ((endB (bitB w) n (i + 1) : Int) + 1 + 2) = (endB (bitB w) n (i + 1) : Int) + 3 := by omega
        have e4 : w % 2 ^ i + (2 ^ (endB (bitB w) n (i + 1) + 1) - 2 ^ i) = w % 2 ^ (endB (bitB w) n (i + 1) + 1) := by omega
        rw [e1, e2, e3, e4]
        exact ih2 (by omega)
      · rw [runsB, if_pos hb, if_pos rfl, endB, if_pos hb]
        exact ih2 (by omega)
    · have hm : w % 2 ^ (i + 1) = w % 2 ^ i := by
        have hm := mod_bit w i
        rw [if_neg hb] at hm
        exact hm
      refine ⟨fun next hn => ?_, fun h => ?_⟩
      · rw [runsB, if_neg hb, ← hm]
        exact ih1 next (by omega)
      · rw [runsB, if_neg hb, endB, if_neg hb, show i - 1 + 1 = i by omega, ← hm]
        exact ih1 _ (by omega)
def parseWN (l : List Int) : Int × Int := pwkN (piecesA 44 [] l) 0 0 true
theorem bitB_test (w i : Nat) : bitB w i = w.testBit i := by rw [Nat.testBit_eq_decide_div_mod_eq]; rfl
theorem runs_none (b : Nat → Bool) (n : Nat) : ∀ i, (∀ j, i ≤ j → j < i + n → b j = false) → runsB b false n i = [] := by
  induction n with
  | zero => intro i h; rfl
  | succ n ih =>
    intro i h
    rw [runsB, h i (Nat.le_refl _) (by omega)]
    exact ih (i + 1) (fun j h1 h2 => h j (by omega) (by omega))
theorem weeks_back (w : Nat) : parseWN (weeksL w) = if w % 1048576 = 0 then (0, 3) else (((w % 1048576 : Nat) : Int), 0) := by
  have h := (pwk_runs w 20 0 (by omega)).1 0 (by omega)
  rw [Nat.pow_zero, Nat.mod_one, show 2 ^ (0 + 20) = 1048576 by decide] at h
  unfold parseWN weeksL
  by_cases h0 : w % 1048576 = 0
  · have hr : runsB (bitB w) false 20 0 = [] := by
      refine runs_none _ 20 0 (fun j _ hj => ?_)
      rw [bitB_test]
      have h2 := Nat.testBit_mod_two_pow w 20 j
      rw [show 2 ^ 20 = 1048576 by decide, h0, Nat.zero_testBit, decide_eq_true (by omega), Bool.true_and] at h2
      exact h2.symm
    rw [hr, if_pos h0]
    rfl
  · rw [if_neg h0]
    have hr : runsB (bitB w) false 20 0 ≠ [] := by
      intro e
      rw [e] at h
      have h2 := congrArg Prod.fst h
      simp only [List.map_nil, pwkN] at h2
      have h3 : ((0 : Nat) : Int) = ((w % 1048576 : Nat) : Int) := h2
      omega
    rw [pieces_join 44 _ (by simpa using hr), h]
    intro p hp
    obtain ⟨r, _, rfl⟩ := List.mem_map.1 hp
    intro hc
    rcases runT_mem r 44 hc with h2 | h2 <;> omega
def SepFrom : Nat → List (Nat × Nat) → Prop
  | _, [] => True
  | i, r :: L => i ≤ r.1 ∧ r.1 ≤ r.2 ∧ r.2 < 20 ∧ SepFrom (r.2 + 2) L
def sumR : List (Nat × Nat) → Nat
  | [] => 0
  | r :: L => (2 ^ (r.2 + 1) - 2 ^ r.1) + sumR L
def memR (L : List (Nat × Nat)) (j : Nat) : Bool := L.any fun r => decide (r.1 ≤ j ∧ j ≤ r.2)
theorem SepFrom.mono : ∀ (L : List (Nat × Nat)) (i k : Nat), i ≤ k → SepFrom k L → SepFrom i L
  | [], _, _, _, _ => trivial
  | r :: L, i, k, h, ⟨h1, h2⟩ => ⟨by omega, h2⟩
theorem memR_low : ∀ (L : List (Nat × Nat)) (i j : Nat), SepFrom i L → j < i → memR L j = false
  | [], _, _, _, _ => rfl
  | r :: L, i, j, ⟨h1, h2, h3, h4⟩, h => by
    have ih := memR_low L (r.2 + 2) j h4 (by omega)
    unfold memR at ih ⊢
    rw [List.any_cons, ih, decide_eq_false (by omega)]
    rfl
theorem sumR_dvd : ∀ (L : List (Nat × Nat)) (i : Nat), SepFrom i L → 2 ^ i ∣ sumR L
  | [], _, _ => Nat.dvd_zero _
  | r :: L, i, ⟨h1, h2, h3, h4⟩ => by
    have ih := sumR_dvd L (r.2 + 2) h4
    refine Nat.dvd_add (Nat.dvd_sub ?_ ?_) (Nat.dvd_trans ?_ ih)
    · exact Nat.pow_dvd_pow 2 (by omega)
    · exact Nat.pow_dvd_pow 2 (by omega)
    · exact Nat.pow_dvd_pow 2 (by omega)
theorem one_run : ∀ a : Fin 20, ∀ e : Fin 20, ∀ j : Fin 22, a.1 ≤ e.1 → (2 ^ (e.1 + 1) - 2 ^ a.1).testBit j.1 = decide (a.1 ≤ j.1 ∧ j.1 ≤ e.1) := by decide +kernel
theorem sumR_bits : ∀ (L : List (Nat × Nat)) (i j : Nat), SepFrom i L → (sumR L).testBit j = memR L j
  | [], _, j, _ => by simp [sumR, memR]
  | r :: L, i, j, ⟨h1, h2, h3, h4⟩ => by
    have ih := sumR_bits L (r.2 + 2) j h4
    obtain ⟨q, hq⟩ := sumR_dvd L (r.2 + 2) h4
    have hx : 2 ^ (r.2 + 1) - 2 ^ r.1 < 2 ^ (r.2 + 2) := by
      have h5 : 2 ^ (r.2 + 2) = 2 ^ (r.2 + 1) + 2 ^ (r.2 + 1) := by rw [Nat.pow_succ 2 (r.2 + 1)]; omega
      have h6 : 0 < 2 ^ (r.2 + 1) := Nat.pow_pos (by decide)
      have h7 : 0 < 2 ^ r.1 := Nat.pow_pos (by decide)
      omega
    have hm : memR (r :: L) j = (decide (r.1 ≤ j ∧ j ≤ r.2) || memR L j) := by unfold memR; rw [List.any_cons]
    rw [hm, sumR, hq, Nat.add_comm, Nat.testBit_two_pow_mul_add _ hx]
    by_cases hj : j < r.2 + 2
    · rw [if_pos hj, memR_low L (r.2 + 2) j h4 hj, Bool.or_false]
      exact one_run ⟨r.1, by omega⟩ ⟨r.2, h3⟩ ⟨j, by omega⟩ h2
    · rw [if_neg hj, decide_eq_false (by omega), Bool.false_or, ← ih, hq, Nat.testBit_two_pow_mul, decide_eq_true (by omega), Bool.true_and]
theorem runs_of (b : Nat → Bool) (n : Nat) :
    (∀ i L, i + n = 20 → SepFrom i L → (∀ j, i ≤ j → j < 20 → b j = memR L j) → runsB b false n i = L) ∧
    (∀ i e L, i + n = 20 → 0 < i → i ≤ e + 1 → e < 20 → SepFrom (e + 2) L → (∀ j, i ≤ j → j < 20 → b j = (decide (j ≤ e) || memR L j)) → endB b n i = e ∧ runsB b true n i = L) := by
  induction n with
  | zero =>
    refine ⟨fun i L hi hs hb => ?_, fun i e L hi h0 he he2 hs hb => ?_⟩
    · cases L with
      | nil => rfl
      | cons r L => obtain ⟨h1, h2, h3, _⟩ := hs; omega
    · refine ⟨by show i - 1 = e; omega, ?_⟩
      cases L with
      | nil => rfl
      | cons r L => obtain ⟨h1, h2, h3, _⟩ := hs; omega
  | succ n ih =>
    obtain ⟨ih1, ih2⟩ := ih
    refine ⟨fun i L hi hs hb => ?_, fun i e L hi h0 he he2 hs hb => ?_⟩
    · rw [runsB, hb i (Nat.le_refl _) (by omega)]
      cases L with
      | nil =>
        exact ih1 (i + 1) [] (by omega) trivial (fun j h1 h2 => hb j (by omega) h2)
      | cons r L =>
        obtain ⟨h1, h2, h3, h4⟩ := hs
        have hm : ∀ j, memR (r :: L) j = (decide (r.1 ≤ j ∧ j ≤ r.2) || memR L j) := by intro j; unfold memR; rw [List.any_cons]
        by_cases hir : i = r.1
        · have ht : memR (r :: L) i = true := by rw [hm, decide_eq_true (by omega), Bool.true_or]
          rw [ht, if_pos rfl, if_neg (by decide)]
          obtain ⟨h5, h6⟩ := ih2 (i + 1) r.2 L (by omega) (by omega) (by omega) h3 h4 (by
            intro j hj1 hj2
            rw [hb j (by omega) hj2, hm]
            congr 1
            apply decide_eq_decide.2
            omega)
          rw [h5, h6, hir]
        · have hf : memR (r :: L) i = false := by rw [hm, decide_eq_false (by omega), Bool.false_or]; exact memR_low L _ i h4 (by omega)
          rw [hf]
          exact ih1 (i + 1) (r :: L) (by omega) ⟨by omega, h2, h3, h4⟩ (fun j hj1 hj2 => hb j (by omega) hj2)
    · rw [runsB, endB, hb i (Nat.le_refl _) (by omega)]
      by_cases hie : i ≤ e
      · rw [decide_eq_true hie, Bool.true_or, if_pos rfl, if_pos rfl, if_pos rfl]
        exact ih2 (i + 1) e L (by omega) (by omega) (by omega) he2 hs (fun j h1 h2 => hb j (by omega) h2)
      · rw [decide_eq_false hie, Bool.false_or, memR_low L _ i hs (by omega)]
        refine ⟨by show i - 1 = e; omega, ?_⟩
        refine ih1 (i + 1) L (by omega) (SepFrom.mono L _ _ (by omega) hs) (fun j h1 h2 => ?_)
        rw [hb j (by omega) h2, decide_eq_false (by omega), Bool.false_or]
theorem runs_sum (L : List (Nat × Nat)) (h : SepFrom 0 L) : runsB (bitB (sumR L)) false 20 0 = L :=
  (runs_of _ 20).1 0 L rfl h (fun j _ _ => by rw [bitB_test]; exact sumR_bits L 0 j h)
theorem runP_of (p : List Int) (a b : Int) (h : runP p = some (a, b)) (ha : 1 ≤ a) : 1 ≤ a ∧ a ≤ b ∧ p = runT ((a - 1).toNat, (b - 1).toNat) := by
  have hb := pieces_back 45 p []
  unfold runP at h
  match hp : piecesA 45 [] p, h, hb with
  | [x], h, hb =>
    simp only at h
    obtain ⟨n, hn, h2⟩ := Option.bind_eq_some_iff.1 h
    have h3 : n = a ∧ n = b := by simpa using h2
    obtain ⟨h4, h5, h6⟩ := numN_of x n hn
    refine ⟨ha, by omega, ?_⟩
    have hx : x = p := hb
    rw [← hx, h6]
    unfold runT
    rw [if_neg (by simp only; omega), List.append_nil]
    congr 1
    simp only
    omega
  | [x, y], h, hb =>
    simp only at h
    obtain ⟨n, hn, h2⟩ := Option.bind_eq_some_iff.1 h
    obtain ⟨m, hm, h3⟩ := Option.bind_eq_some_iff.1 h2
    by_cases hlt : n < m
    · rw [if_pos hlt] at h3
      have h4 : n = a ∧ m = b := by simpa using h3
      obtain ⟨h5, h6, h7⟩ := numN_of x n hn
      obtain ⟨h8, h9, h10⟩ := numN_of y m hm
      refine ⟨ha, by omega, ?_⟩
      have hx : x ++ 45 :: y = p := hb
      rw [← hx]
      unfold runT
      rw [if_pos (by simp only; omega)]
      simp only
      rw [show (a - 1).toNat + 1 = n.toNat by omega, show (b - 1).toNat + 1 = m.toNat by omega, ← h7, ← h10]
    · rw [if_neg hlt] at h3
      cases h3
theorem pwk_unfit : ∀ (ps : List (List Int)) (next : Int) (acc : Nat) (v : Int), pwkN ps next acc false ≠ (v, 0)
  | [], _, _, v => by simp [pwkN]
  | p :: ps, next, acc, v => by
    rw [pwkN]
    split
    · simp
    · split
      · simp
      · split
        · exact pwk_unfit ps _ _ v
        · exact pwk_unfit ps _ _ v
theorem pwk_of : ∀ (ps : List (List Int)) (next : Int) (acc i : Nat) (v : Int), ((i : Int) ≤ next - 1 ∨ i = 0) → pwkN ps next acc true = (v, 0) → ∃ L, ps = L.map runT ∧ SepFrom i L ∧ v = ((acc + sumR L : Nat) : Int)
  | [], next, acc, i, v, hi, h => by
    simp [pwkN] at h
    exact ⟨[], rfl, trivial, by rw [← h]; rfl⟩
  | p :: ps, next, acc, i, v, hi, h => by
    rw [pwkN] at h
    split at h
    · simp at h
    · rename_i a b hr
      split at h
      · simp at h
      · rename_i hn
        split at h
        · exact absurd h (pwk_unfit _ _ _ v)
        · rename_i hf
          obtain ⟨h1, h2, h3⟩ := runP_of p a b hr (by omega)
          obtain ⟨L, h4, h5, h6⟩ := pwk_of ps (b + 2) _ ((b - 1).toNat + 2) v (.inl (by omega)) h
          refine ⟨((a - 1).toNat, (b - 1).toNat) :: L, by rw [h4, h3]; rfl, ⟨by simp only; omega, by simp only; omega, by simp only; omega, h5⟩, ?_⟩
          rw [h6, sumR]
          simp only
          rw [show (b - 1).toNat + 1 = b.toNat by omega, Nat.add_assoc]
theorem weeks_of (l : List Int) (v : Int) (h : parseWN l = (v, 0)) : 0 < v ∧ v < 1048576 ∧ weeksL v.toNat = l := by
  unfold parseWN at h
  obtain ⟨L, h1, h2, h3⟩ := pwk_of _ 0 0 0 v (.inr rfl) h
  rw [Nat.zero_add] at h3
  have hr := runs_sum L h2
  have hv : v.toNat = sumR L := by omega
  have hw : weeksL v.toNat = l := by
    unfold weeksL
    rw [hv, hr, ← h1]
    exact pieces_back 44 l []
  have hb := weeks_back v.toNat
  rw [hw] at hb
  unfold parseWN at hb
  rw [h] at hb
  by_cases h0 : v.toNat % 1048576 = 0
  · rw [if_pos h0] at hb
    simp at hb
  · rw [if_neg h0] at hb
    have h4 : v = ((v.toNat % 1048576 : Nat) : Int) := congrArg Prod.fst hb
    exact ⟨by omega, by omega, hw⟩
end Go.Proofs.YtnagecfpbkffpaaDoor.Q
end
section
namespace Go.Proofs.YtnagecfpbkffpaaDoor.P
open Go.RowKit Go.Proofs.YtnagecfpbkffpaaDoorW.PrintWords
set_option linter.unusedVariables false
set_option linter.unusedSimpArgs false
def gridB (a b c : Int) : Bool := decide (1 ≤ a ∧ a ≤ 20 ∧ 1 ≤ b ∧ b ≤ 7 ∧ 1 ≤ c ∧ c ≤ 96)
def rightB (a b c w d s l : Int) : Bool := gridB a b c && decide (0 ≤ s ∧ 1 ≤ l ∧ s + l ≤ c ∧ w ≠ 0 ∧ w < 2 ^ a.toNat ∧ d ≠ 0 ∧ d < 2 ^ b.toNat)
theorem within_eq (x a b : Int) : when_within.f x a b = some (decide (a ≤ x ∧ x ≤ b)) := by
  unfold when_within.f
  by_cases h : a ≤ x
  · rw [if_pos h]
    by_cases h2 : x ≤ b
    · rw [decide_eq_true h2, decide_eq_true ⟨h, h2⟩]
    · rw [decide_eq_false h2, decide_eq_false (fun h3 => h2 h3.2)]
  · rw [if_neg h, decide_eq_false (fun h3 => h h3.1)]
theorem grid_eq (a b c : Int) : when_RightGrid.f a b c = some (gridB a b c) := by
  unfold when_RightGrid.f gridB
  rw [within_eq, within_eq, within_eq]
  simp only [Option.bind_some]
  by_cases h1 : 1 ≤ a ∧ a ≤ 20
  · rw [decide_eq_true h1, if_pos rfl]
    by_cases h2 : 1 ≤ b ∧ b ≤ 7
    · rw [decide_eq_true h2, if_pos rfl]
      congr 1
      apply decide_eq_decide.2
      omega
    · rw [decide_eq_false h2, if_neg (by decide), decide_eq_false (by omega)]
  · rw [decide_eq_false h1, if_neg (by decide), decide_eq_false (by omega)]
theorem div_zero_iff (w a : Nat) : w / 2 ^ a = 0 ↔ w < 2 ^ a := by
  have hp : 0 < 2 ^ a := Nat.pow_pos (by decide)
  constructor
  · intro h
    have := Nat.div_eq_zero_iff.1 h
    omega
  · intro h; exact Nat.div_eq_of_lt h
theorem pow_cast (a : Nat) : ((2 : Int) ^ a) = ((2 ^ a : Nat) : Int) := by norm_cast
theorem right_eq (a b c w d s l : Int) (hw0 : 0 ≤ w) (hw1 : w ≤ 4294967295) (hd0 : 0 ≤ d) (hd1 : d ≤ 255) : when_Right.f a b c w d s l = some (rightB a b c w d s l) := by
  unfold when_Right.f rightB when_tame.f
  rw [grid_eq, within_eq, within_eq]
  simp only [Option.bind_some]
  by_cases hg : gridB a b c = true
  · rw [hg, if_pos rfl, Bool.true_and]
    have hg2 := hg
    simp only [gridB, decide_eq_true_eq] at hg2
    by_cases h1 : 0 ≤ s ∧ s ≤ 96
    · rw [decide_eq_true h1, if_pos rfl]
      simp only [Option.bind_some]
      by_cases h2 : 1 ≤ l ∧ l ≤ 96
      · rw [decide_eq_true h2, if_pos rfl, w64_in (by omega) (by omega)]
        by_cases h3 : s + l > c
        · rw [if_pos h3, decide_eq_false (by omega)]
        · rw [if_neg h3]
          by_cases h4 : w = 0
          · rw [if_pos h4, decide_eq_false (by omega)]
          · rw [if_neg h4, if_pos (by omega)]
            have e1 : shr .u32 w a = ((w.toNat / 2 ^ a.toNat : Nat) : Int) := by
              unfold shr
              rw [show min a.toNat IntKind.u32.bits = a.toNat by show min a.toNat 32 = a.toNat; omega, pow_cast, Int.natCast_ediv, show ((w.toNat : Nat) : Int) = w by omega]
            have e2 : shr .i64 (wrap64 d) b = ((d.toNat / 2 ^ b.toNat : Nat) : Int) := by
              unfold shr
              rw [w64_in (by omega) (by omega), show min b.toNat IntKind.i64.bits = b.toNat by show min b.toNat 64 = b.toNat; omega, pow_cast, Int.natCast_ediv, show ((d.toNat : Nat) : Int) = d by omega]
            have i1 := div_zero_iff w.toNat a.toNat
            have i2 := div_zero_iff d.toNat b.toNat
            rw [e1, e2, pow_cast, pow_cast]
            generalize w.toNat / 2 ^ a.toNat = x at *
            generalize d.toNat / 2 ^ b.toNat = y at *
            generalize (2 : Nat) ^ a.toNat = u at *
            generalize (2 : Nat) ^ b.toNat = v at *
            by_cases h5 : (x : Int) = 0
            · rw [if_pos h5]
              by_cases h6 : d = 0
              · rw [if_pos h6, decide_eq_false (by omega)]
              · rw [if_neg h6, if_pos (by omega)]
                by_cases h7 : y = 0
                · rw [show ((y : Int) == 0) = true by simp [h7], decide_eq_true (by omega)]
                · rw [show ((y : Int) == 0) = false by simp [h7], decide_eq_false (by omega)]
            · rw [if_neg h5, decide_eq_false (by omega)]
      · rw [decide_eq_false h2, if_neg (by decide), decide_eq_false (by omega)]
    · rw [decide_eq_false h1, if_neg (by decide)]
      simp only [Option.bind_some]
      rw [if_neg (by decide), decide_eq_false (by omega)]
  · have hf : gridB a b c = false := by simpa using hg
    rw [hf, if_neg (by decide), Bool.false_and]
end Go.Proofs.YtnagecfpbkffpaaDoor.P
end
section
namespace Go.Proofs.YtnagecfpbkffpaaDoor.P
open Go.RowKit Go.Proofs.YtnagecfpbkffpaaDoorW.PrintWords
set_option linter.unusedVariables false
set_option linter.unusedSimpArgs false
def pwB (s : ByteArray) : Int × Int := Q.pwN (bytesOf s)
theorem shaped_loop (s : ByteArray) (hs : s.size ≤ 140737488351232) : ∀ (d : Nat) (i : Int), 0 ≤ i → i ≤ s.size → (s.size : Int) - i ≤ d →
    Ev (fun k => digits_shaped.l0 k s s.size i) (((bytesOf s).drop i.toNat).all Q.digitI) := by
  intro d
  induction d with
  | zero =>
    intro i h0 h1 hd
    refine Ev.step (fun k => digits_shaped.l0.eq_2 ..) (Ev.ifn (by omega) (Ev.eq (Ev.now _) ?_))
    rw [List.drop_eq_nil_of_le (by rw [bytesOf_length]; omega)]
    rfl
  | succ d ih =>
    intro i h0 h1 hd
    by_cases hi : i < s.size
    · refine Ev.step (fun k => digits_shaped.l0.eq_2 ..) (Ev.ifp hi (Ev.ifp h0 (Ev.ifp hi ?_)))
      rw [bytes_drop s i h0 hi, List.all_cons]
      by_cases ha : bt s i < 48
      · refine Ev.ifp ha (Ev.eq (Ev.now _) ?_)
        rw [show Q.digitI (bt s i) = false from decide_eq_false (by omega)]; rfl
      · refine Ev.ifn ha ?_
        by_cases hb : bt s i > 57
        · refine Ev.ifp hb (Ev.eq (Ev.now _) ?_)
          rw [show Q.digitI (bt s i) = false from decide_eq_false (by omega)]; rfl
        · refine Ev.ifn hb ?_
          rw [show Q.digitI (bt s i) = true from decide_eq_true (by omega), Bool.true_and, w64_in (by omega) (by omega)]
          exact ih (i + 1) (by omega) (by omega) (by omega)
    · refine Ev.step (fun k => digits_shaped.l0.eq_2 ..) (Ev.ifn hi (Ev.eq (Ev.now _) ?_))
      rw [List.drop_eq_nil_of_le (by rw [bytesOf_length]; omega)]
      rfl
theorem bt_zero (s : ByteArray) : bt s 0 = (bytesOf s).getD 0 0 := bt_get s 0
theorem shaped_ev (s : ByteArray) (hs : s.size ≤ 140737488351232) : Ev (fun k => digits_shaped.f k s) (Q.shapedN (bytesOf s)) := by
  unfold digits_shaped.f Q.shapedN
  rw [bytesOf_length]
  have hl := shaped_loop s hs s.size 0 (by omega) (by omega) (by omega)
  simp only [Int.toNat_zero, List.drop_zero] at hl
  by_cases h0 : s.size = 0
  · refine Ev.ifp ((empty_bytes s).2 h0) (Ev.step (fun k => digits_shaped.j0.eq_2 ..) (Ev.ifp rfl (Ev.eq (Ev.now _) ?_)))
    rw [h0]
    simp
  · refine Ev.ifn (fun h => h0 ((empty_bytes s).1 h)) (Ev.ifp (by omega) ?_)
    by_cases h48 : bt s 0 = 48
    · refine Ev.ifp h48 (Ev.step (fun k => digits_shaped.j0.eq_2 ..) ?_)
      rw [← bt_zero, h48]
      by_cases h1 : s.size > 1
      · refine Ev.ifp (decide_eq_true (by omega)) (Ev.eq (Ev.now _) ?_)
        rw [show decide (s.size = 1) = false from decide_eq_false (by omega)]
        simp
      · refine Ev.ifn (by simp only [decide_eq_true_eq]; omega) (Ev.eq hl ?_)
        rw [show decide (s.size = 1) = true from decide_eq_true (by omega)]
        simp
    · refine Ev.ifn h48 (Ev.step (fun k => digits_shaped.j0.eq_2 ..) (Ev.ifn (by decide) (Ev.eq hl ?_)))
      rw [← bt_zero, show decide (bt s 0 ≠ 48) = true from decide_eq_true h48]
      by_cases h1 : s.size > 1
      · rw [show decide (s.size > 1) = true from decide_eq_true h1]; simp
      · rw [show decide (s.size = 1) = true from decide_eq_true (by omega)]; simp
theorem pw_loop (s : ByteArray) (hs : s.size ≤ 140737488351232) (hd : (bytesOf s).all Q.digitI = true) : ∀ (d : Nat) (i : Int) (a : Nat), 0 ≤ i → i ≤ s.size → (s.size : Int) - i ≤ d → a < 18446744073709551616 →
    Ev (fun k => digits_ParseWord.l0 k s (a : Int) s.size i) (if Q.valA a ((bytesOf s).drop i.toNat) < 18446744073709551616 then ((Q.valA a ((bytesOf s).drop i.toNat) : Nat), 0) else (0, 6)) := by
  intro d
  induction d with
  | zero =>
    intro i a h0 h1 hd ha
    refine Ev.step (fun k => digits_ParseWord.l0.eq_2 ..) (Ev.ifn (by omega) (Ev.eq (Ev.now _) ?_))
    rw [List.drop_eq_nil_of_le (by rw [bytesOf_length]; omega)]
    exact (if_pos (show Q.valA a [] < 18446744073709551616 from ha)).symm
  | succ d ih =>
    intro i a h0 h1 hd2 ha
    by_cases hi : i < s.size
    · refine Ev.step (fun k => digits_ParseWord.l0.eq_2 ..) (Ev.ifp hi (Ev.ifp h0 (Ev.ifp hi ?_)))
      have hm : Q.digitI (bt s i) = true := by
        refine List.all_eq_true.1 hd _ ?_
        have h5 : bt s i ∈ (bytesOf s).drop i.toNat := by rw [bytes_drop s i h0 hi]; exact List.mem_cons_self
        exact List.mem_of_mem_drop h5
      simp only [Q.digitI, decide_eq_true_eq] at hm
      rw [bytes_drop s i h0 hi, Q.valA]
      have e : (bt s i - 48) % 256 = (((bt s i - 48).toNat : Nat) : Int) := by omega
      rw [e]
      generalize hc : (bt s i - 48).toNat = c
      have hc9 : c ≤ 9 := by omega
      by_cases ho : (a : Int) > (18446744073709551615 - (c : Int)) / 10
      · refine Ev.ifp ho (Ev.eq (Ev.now _) ?_)
        have h6 := Q.valA_mono ((bytesOf s).drop (i + 1).toNat) (10 * a + c)
        rw [if_neg (by omega)]
      · refine Ev.ifn ho ?_
        have h7 : 10 * a + c < 18446744073709551616 := by omega
        have e2 : IntKind.u64.wrap (IntKind.u64.wrap (10 * (a : Int)) + (c : Int)) = ((10 * a + c : Nat) : Int) := by
          rw [u64_in2 (x := 10 * (a : Int)) (by omega) (by omega), u64_in2 (by omega) (by omega)]
          omega
        rw [e2, w64_in (by omega) (by omega)]
        exact ih (i + 1) (10 * a + c) (by omega) (by omega) (by omega) h7
    · refine Ev.step (fun k => digits_ParseWord.l0.eq_2 ..) (Ev.ifn hi (Ev.eq (Ev.now _) ?_))
      rw [List.drop_eq_nil_of_le (by rw [bytesOf_length]; omega)]
      exact (if_pos (show Q.valA a [] < 18446744073709551616 from ha)).symm
theorem pw_ev (s : ByteArray) (hs : s.size ≤ 140737488351232) : Ev (fun k => digits_ParseWord.f k s) (pwB s) := by
  unfold digits_ParseWord.f pwB Q.pwN
  refine Ev.call (shaped_ev s hs) ?_
  by_cases h : Q.shapedN (bytesOf s) = true
  · rw [h]
    refine Ev.ifp rfl ?_
    have h2 := pw_loop s hs (Q.shaped_of _ h).1 s.size 0 0 (by omega) (by omega) (by omega) (by omega)
    simp only [Int.toNat_zero, List.drop_zero] at h2
    rw [if_pos rfl]
    exact h2
  · refine Ev.ifn h (Ev.eq (Ev.now _) ?_)
    rw [if_neg h]
end Go.Proofs.YtnagecfpbkffpaaDoor.P
end
section
namespace Go.Proofs.YtnagecfpbkffpaaDoor.P
open Go.RowKit Go.Proofs.YtnagecfpbkffpaaDoorW.PrintWords
set_option linter.unusedVariables false
set_option linter.unusedSimpArgs false
def cutB (s : ByteArray) (c : Int) : List ByteArray := (Q.piecesA c [] (bytesOf s)).map strOfNums
end Go.Proofs.YtnagecfpbkffpaaDoor.P
end
section
namespace Go.Proofs.YtnagecfpbkffpaaDoor.Q
theorem pieces_count (c : UInt8) (l : List UInt8) : ∀ pre, (piecesA (c.toNat : Int) pre (nums l)).length = l.count c + 1 := by
  induction l with
  | nil => intro pre; simp [nums, piecesA]
  | cons b l ih =>
    intro pre
    show (piecesA _ pre ((b.toNat : Int) :: nums l)).length = _
    by_cases hb : b = c
    · subst hb
      rw [piecesA, if_pos rfl, List.length_cons, ih, List.count_cons_self]
    · have hbc : ((b.toNat : Nat) : Int) ≠ (c.toNat : Int) := by
        intro h
        exact hb (UInt8.toNat_inj.1 (by omega))
      rw [piecesA, if_neg hbc, ih, List.count_cons_of_ne hb]
end Go.Proofs.YtnagecfpbkffpaaDoor.Q
namespace Go.Proofs.YtnagecfpbkffpaaDoor.P
open Go.RowKit Go.Proofs.YtnagecfpbkffpaaDoorW.PrintWords
set_option linter.unusedVariables false
set_option linter.unusedSimpArgs false
theorem index_one (s : ByteArray) (c : UInt8) : strings_Index.f s ⟨#[c]⟩ = some (Lib.indexByte s.data.toList c) := by
  unfold strings_Index.f stringslite_Index.f
  have h : (bt ⟨#[c]⟩ 0).toNat.toUInt8 = c := by
    unfold bt
    rw [dif_pos (show Int.toNat 0 < ByteArray.size ⟨#[c]⟩ from Nat.zero_lt_one)]
    simp [ByteArray.getElem_eq_getElem_data]
  rw [if_pos (show (⟨#[c]⟩ : ByteArray).size = 1 from rfl), h]
  rfl
theorem count_one (s : ByteArray) (c : UInt8) : strings_Count.f s ⟨#[c]⟩ = some ((s.data.toList.count c : Nat) : Int) := by
  unfold strings_Count.f
  have h : (bt ⟨#[c]⟩ 0).toNat.toUInt8 = c := by
    unfold bt
    rw [dif_pos (show Int.toNat 0 < ByteArray.size ⟨#[c]⟩ from Nat.zero_lt_one)]
    simp [ByteArray.getElem_eq_getElem_data]
  rw [if_pos (show (⟨#[c]⟩ : ByteArray).size = 1 from rfl), h]
  rfl
theorem cut_first (s : ByteArray) (c : UInt8) : (Q.piecesA (c.toNat : Int) [] (bytesOf s) = [bytesOf s]) ∨
    ∃ j : Nat, Lib.indexByte s.data.toList c = j ∧ j < s.size ∧ Q.piecesA (c.toNat : Int) [] (bytesOf s) = bytesOf (s.extract 0 j) :: Q.piecesA (c.toNat : Int) [] (bytesOf (s.extract (j + 1) s.size)) := by
  rcases Q.pieces_index c s.data.toList [] with ⟨_, h2⟩ | ⟨j, h1, h2, h3⟩
  · exact .inl (by rw [← nums_bytes, h2]; rfl)
  · have hl : s.data.toList.length = s.size := data_length s
    refine .inr ⟨j, h1, by omega, ?_⟩
    rw [← nums_bytes s, h3]
    have e1 : bytesOf (s.extract 0 j) = Q.nums (s.data.toList.take j) := by
      rw [← nums_bytes, ByteArray.data_extract, Array.toList_extract]
      simp
    have e2 : bytesOf (s.extract (j + 1) s.size) = Q.nums (s.data.toList.drop (j + 1)) := by
      rw [← nums_bytes, ByteArray.data_extract, Array.toList_extract, List.extract_eq_take_drop, List.take_of_length_le]
      rw [List.length_drop]
      omega
    rw [e1, e2]
    rfl
theorem wrap_succ (n : Nat) (h : (n : Int) + 1 ≤ 9223372036854775807) : wrap64 ((n : Int) + 1) = ((n + 1 : Nat) : Int) := by
  rw [w64_in (by omega) h]
  rfl
theorem wrap_zero (n : Nat) (h : (n : Int) + 1 ≤ 9223372036854775807) : wrap64 ((n : Int) + 0) = (n : Int) := by
  rw [Int.add_zero]
  exact w64_in (by omega) (by omega)
theorem wrap_one (n : Nat) (c : UInt8) (h : (n : Int) + 1 ≤ 9223372036854775807) : wrap64 ((n : Int) + ((⟨#[c]⟩ : ByteArray).size : Int)) = ((n + 1 : Nat) : Int) := wrap_succ n h
theorem gen_loop (c : UInt8) (m : Nat) (hm : m ≤ 4398046511104) : ∀ (d : Nat) (r : ByteArray) (done : List ByteArray), done.length + d = m → done.length + (Q.piecesA (c.toNat : Int) [] (bytesOf r)).length = m + 1 → r.size ≤ 4398046511104 →
    Ev (fun k => strings_genSplit.l0 k r ⟨#[c]⟩ 0 m (done ++ List.replicate (m + 1 - done.length) ⟨#[]⟩) done.length) (done ++ cutB r c.toNat) := by
  have hset : ∀ (done : List ByteArray) (n : Nat) (x : ByteArray), (done ++ List.replicate (n + 1) (⟨#[]⟩ : ByteArray)).set done.length x = done ++ x :: List.replicate n ⟨#[]⟩ := by
    intro done n x
    rw [List.set_append_right _ _ (Nat.le_refl _), Nat.sub_self, List.replicate_succ, List.set_cons_zero]
  have hlen : ∀ (done : List ByteArray), done.length ≤ m → (done ++ List.replicate (m + 1 - done.length) (⟨#[]⟩ : ByteArray)).length = m + 1 := by
    intro done h
    rw [List.length_append, List.length_replicate]
    omega
  intro d
  induction d with
  | zero =>
    intro r done hd hp hr
    have hl := hlen done (by omega)
    refine Ev.step (fun k => strings_genSplit.l0.eq_2 ..) (Ev.ifn (by omega) ?_)
    have w1 : wrap64 ((done.length : Int) + 1) = ((done.length + 1 : Nat) : Int) := by rw [w64_in (by omega) (by omega)]; rfl
    rw [hl, w1]
    refine Ev.ifp (by omega) (Ev.ifp (by omega) (Ev.ifp (by omega) (Ev.ifp (by omega) (Ev.eq (Ev.now _) ?_))))
    rcases cut_first r c with h | ⟨j, _, _, h⟩
    · unfold cutB
      rw [h]
      simp only [Int.toNat_natCast, List.map_cons, List.map_nil, str_bytes]
      rw [show m + 1 - done.length = 0 + 1 by omega, hset, List.replicate_zero]
      exact List.take_of_length_le (by simp)
    · exfalso
      rw [h] at hp
      have h2 := Q.pieces_count c (r.extract (j + 1) r.size).data.toList []
      rw [nums_bytes] at h2
      simp only [List.length_cons, h2] at hp
      omega
  | succ d ih =>
    intro r done hd hp hr
    have hl := hlen done (by omega)
    refine Ev.step (fun k => strings_genSplit.l0.eq_2 ..) (Ev.ifp (by omega) (Ev.call (Ev.const (index_one r c)) ?_))
    rcases cut_first r c with h | ⟨j, hj, hjs, h⟩
    · exfalso
      rw [h] at hp
      simp at hp
      omega
    · rw [hj, hl]
      have g1 : ¬ ((j : Int) < 0) := by omega
      have g2 : (0 : Int) ≤ j := by omega
      have g3 : (j : Int) ≤ (r.size : Int) := by omega
      have g4 : (0 : Int) ≤ (done.length : Int) := by omega
      have g5 : (done.length : Int) < ((m + 1 : Nat) : Int) := by omega
      have g6 : (0 : Int) ≤ ((j + 1 : Nat) : Int) := by omega
      have g7 : ((j + 1 : Nat) : Int) ≤ (r.size : Int) := by omega
      have g8 : (j : Int) + 1 ≤ 9223372036854775807 := by omega
      have g9 : (done.length : Int) + 1 ≤ 9223372036854775807 := by omega
      have g10 : m + 1 - done.length = (m - done.length) + 1 := by omega
      have g11 : (done ++ [r.extract 0 j]).length + d = m := by simp; omega
      have g12 : (done ++ [r.extract 0 j]).length + (Q.piecesA (c.toNat : Int) [] (bytesOf (r.extract (j + 1) r.size))).length = m + 1 := by
        rw [h] at hp
        simp only [List.length_cons, List.length_append, List.length_nil] at hp ⊢
        omega
      have g13 : (r.extract (j + 1) r.size).size ≤ 4398046511104 := by rw [ByteArray.size_extract]; omega
      have g14 : m + 1 - (done.length + 1) = m - done.length := by omega
      rw [wrap_succ done.length g9, wrap_zero j g8, wrap_one j c g8]
      refine Ev.ifn g1 ?_
      refine Ev.ifp g2 ?_
      refine Ev.ifp g3 ?_
      refine Ev.ifp g4 ?_
      refine Ev.ifp g5 ?_
      refine Ev.ifp g6 ?_
      refine Ev.ifp g7 ?_
      simp only [Int.toNat_natCast]
      rw [g10, hset]
      have h3 := ih (r.extract (j + 1) r.size) (done ++ [r.extract 0 j]) g11 g12 g13
      have e1 : (done ++ [r.extract 0 j]).length = done.length + 1 := by simp
      rw [e1, g14, List.append_assoc, List.append_assoc] at h3
      have e2 : cutB r c.toNat = r.extract 0 j :: cutB (r.extract (j + 1) r.size) c.toNat := by
        unfold cutB
        rw [h, List.map_cons, str_bytes]
      rw [e2]
      exact h3
theorem strsplit_ev (s : ByteArray) (c : UInt8) (hs : s.size ≤ 4398046511103) : Ev (fun k => strings_Split.f k s ⟨#[c]⟩) (cutB s c.toNat) := by
  unfold strings_Split.f strings_genSplit.f
  have hcl : s.data.toList.count c ≤ s.size := by
    have := List.count_le_length (a := c) (l := s.data.toList)
    rw [data_length] at this
    exact this
  refine Ev.call ?_ (Ev.now _)
  refine Ev.ifn (by omega) ?_
  refine Ev.ifn (by rw [empty_bytes]; exact Nat.one_ne_zero) ?_
  refine Ev.ifp (by omega) ?_
  refine Ev.call (Ev.const (count_one s c)) ?_
  · refine Ev.step (fun k => strings_genSplit.j0.eq_2 ..) ?_
    generalize hn : s.data.toList.count c = n at hcl
    have w0 : wrap64 ((n : Int) + 1) = ((n + 1 : Nat) : Int) := by rw [w64_in (by omega) (by omega)]; rfl
    have w1 : wrap64 ((s.size : Int) + 1) = (s.size : Int) + 1 := w64_in (by omega) (by omega)
    have hmn : mn (wrap64 ((n : Int) + 1)) (wrap64 ((s.size : Int) + 1)) = ((n + 1 : Nat) : Int) := by
      rw [w0, w1]
      unfold mn
      by_cases hlt : ((s.size : Int) + 1) < ((n + 1 : Nat) : Int)
      · rw [if_pos hlt]
        omega
      · rw [if_neg hlt]
    have w2 : wrap64 (((n + 1 : Nat) : Int) - 1) = (n : Int) := by rw [w64_in (by omega) (by omega)]; omega
    rw [hmn, w2]
    refine Ev.ifp (by omega) (Ev.ifp (by omega) ?_)
    have h2 := Q.pieces_count c s.data.toList []
    rw [nums_bytes, hn] at h2
    have h3 := gen_loop c n (by omega) n s [] (by simp) (by simp only [List.length_nil]; omega) (by omega)
    simp only [List.length_nil, List.nil_append] at h3
    exact h3
end Go.Proofs.YtnagecfpbkffpaaDoor.P
end
section
namespace Go.Proofs.YtnagecfpbkffpaaDoor.P
open Go.RowKit Go.Proofs.YtnagecfpbkffpaaDoorW.PrintWords
set_option linter.unusedVariables false
set_option linter.unusedSimpArgs false
theorem cut_one (s : ByteArray) (c : UInt8) (hs : s.size ≤ 140737488351232) : (Q.piecesA (c.toNat : Int) [] (bytesOf s) = [bytesOf s] ∧ strings_Cut.f s ⟨#[c]⟩ = some (s, ⟨#[]⟩, false)) ∨
    ∃ a b : ByteArray, Q.piecesA (c.toNat : Int) [] (bytesOf s) = bytesOf a :: Q.piecesA (c.toNat : Int) [] (bytesOf b) ∧ b.size < s.size ∧ a.size ≤ s.size ∧ strings_Cut.f s ⟨#[c]⟩ = some (a, b, true) := by
  have hI : stringslite_Index.f s ⟨#[c]⟩ = some (Lib.indexByte s.data.toList c) := by
    have h := index_one s c
    unfold strings_Index.f at h
    obtain ⟨t, h1, h2⟩ := Option.bind_eq_some_iff.1 h
    rw [h1, h2]
  rcases Q.pieces_index c s.data.toList [] with ⟨h1, h2⟩ | ⟨j, h1, h2, h3⟩
  · refine .inl ⟨by rw [← nums_bytes, h2]; rfl, ?_⟩
    unfold strings_Cut.f stringslite_Cut.f
    rw [hI, h1]
    rfl
  · have hl : s.data.toList.length = s.size := data_length s
    refine .inr ⟨s.extract 0 j, s.extract (j + 1) s.size, ?_, ?_, ?_, ?_⟩
    · rw [← nums_bytes s, h3]
      have e1 : bytesOf (s.extract 0 j) = Q.nums (s.data.toList.take j) := by
        rw [← nums_bytes, ByteArray.data_extract, Array.toList_extract]
        simp
      have e2 : bytesOf (s.extract (j + 1) s.size) = Q.nums (s.data.toList.drop (j + 1)) := by
        rw [← nums_bytes, ByteArray.data_extract, Array.toList_extract, List.extract_eq_take_drop, List.take_of_length_le]
        rw [List.length_drop]
        omega
      rw [e1, e2]
      rfl
    · rw [ByteArray.size_extract]; omega
    · rw [ByteArray.size_extract]; omega
    · unfold strings_Cut.f stringslite_Cut.f
      rw [hI, h1]
      simp only [Option.bind_some]
      rw [wrap_one j c (by omega)]
      rw [if_pos (by omega), if_pos (by omega), if_pos (by omega), if_pos (by omega), if_pos (by omega)]
      simp only [Option.bind_some, Int.toNat_natCast]
end Go.Proofs.YtnagecfpbkffpaaDoor.P
end
section
namespace Go.Proofs.YtnagecfpbkffpaaDoor.Q
end Go.Proofs.YtnagecfpbkffpaaDoor.Q
namespace Go.Proofs.YtnagecfpbkffpaaDoor.P
open Go.RowKit Go.Proofs.YtnagecfpbkffpaaDoorW.PrintWords
set_option linter.unusedVariables false
set_option linter.unusedSimpArgs false
def NumAns (p : List Int) (r : Int × Bool) : Prop := match Q.numN p with
  | some n => r = (n, true)
  | none => r.2 = false
theorem num_ans (s : ByteArray) (hs : s.size ≤ 140737488351232) : NumAns (bytesOf s) (if (pwB s).2 = 0 then (wrap64 (pwB s).1, decide ((s.size : Int) ≤ 2)) else (wrap64 (pwB s).1, false)) := by
  unfold NumAns
  cases h : Q.numN (bytesOf s) with
  | none =>
    simp only
    unfold Q.numN at h
    by_cases h0 : (pwB s).2 = 0
    · rw [if_pos h0]
      by_cases h2 : (bytesOf s).length ≤ 2
      · rw [if_pos ⟨h0, h2⟩] at h
        cases h
      · rw [bytesOf_length] at h2
        exact decide_eq_false (by omega)
    · rw [if_neg h0]
  | some n =>
    simp only
    obtain ⟨h1, h2, _⟩ := Q.numN_of _ n h
    unfold Q.numN at h
    by_cases h0 : (Q.pwN (bytesOf s)).2 = 0 ∧ (bytesOf s).length ≤ 2
    · rw [if_pos h0] at h
      have hn : (pwB s).1 = n := by unfold pwB; simpa using h
      have hl := h0.2
      rw [bytesOf_length] at hl
      rw [if_pos (show (pwB s).2 = 0 from h0.1), hn, w64_in (by omega) (by omega), decide_eq_true (by omega)]
    · rw [if_neg h0] at h
      cases h
theorem number_ev (s : ByteArray) (hs : s.size ≤ 140737488351232) : ∃ r, Ev (fun k => clock_number.f k s) r ∧ NumAns (bytesOf s) r := by
  refine ⟨_, ?_, num_ans s hs⟩
  unfold clock_number.f
  refine Ev.call (pw_ev s hs) ?_
  by_cases h : (pwB s).2 = 0
  · exact Ev.eq (Ev.ifp h (Ev.now _)) (if_pos h).symm
  · exact Ev.eq (Ev.ifn h (Ev.now _)) (if_neg h).symm
def RunAns (p : List Int) (r : Int × Int × Bool) : Prop := match Q.runP p with
  | some (a, b) => r = (a, b, true)
  | none => r.2.2 = false
theorem num_none (p : List Int) (r : Int × Bool) (h : NumAns p r) (h2 : r.2 ≠ true) : Q.numN p = none := by
  unfold NumAns at h
  cases hn : Q.numN p with
  | none => rfl
  | some n =>
    rw [hn] at h
    exact absurd (congrArg Prod.snd h) h2
theorem num_some (p : List Int) (r : Int × Bool) (h : NumAns p r) (h2 : r.2 = true) : Q.numN p = some r.1 := by
  unfold NumAns at h
  cases hn : Q.numN p with
  | none => rw [hn] at h; simp only at h; rw [h] at h2; cases h2
  | some n => rw [hn] at h; simp only at h; rw [h]
theorem run_one (p : List Int) (r : Int × Bool) (hp : Q.piecesA 45 [] p = [p]) (h : NumAns p r) : RunAns p (r.1, r.1, r.2) := by
  unfold RunAns Q.runP
  rw [hp]
  simp only
  cases hr : r.2 with
  | true => rw [num_some p r h hr]; rfl
  | false => rw [num_none p r h (by rw [hr]; decide)]; rfl
theorem run_two (p x y : List Int) (r q : Int × Bool) (hp : Q.piecesA 45 [] p = [x, y]) (hx : NumAns x r) (hy : NumAns y q) :
    RunAns p (if r.2 = true then (if q.2 = true then (r.1, q.1, decide (r.1 < q.1)) else (r.1, q.1, false)) else (r.1, q.1, false)) := by
  unfold RunAns Q.runP
  rw [hp]
  simp only
  by_cases hr : r.2 = true
  · rw [if_pos hr, num_some x r hx hr]
    by_cases hq : q.2 = true
    · rw [if_pos hq, num_some y q hy hq]
      simp only [Option.bind_some]
      by_cases hlt : r.1 < q.1
      · rw [if_pos hlt, decide_eq_true hlt]
      · rw [if_neg hlt, decide_eq_false hlt]
    · rw [if_neg hq, num_none y q hy hq]; rfl
  · rw [if_neg hr, num_none x r hx hr]; rfl
theorem run_more (p x y z : List Int) (l : List (List Int)) (hp : Q.piecesA 45 [] p = x :: y :: z :: l) (a b : Int) : RunAns p (a, b, false) := by
  unfold RunAns Q.runP
  rw [hp]
theorem run_ev (s : ByteArray) (hs : s.size ≤ 140737488351232) : ∃ r, Ev (fun k => clock_run.f k s) r ∧ RunAns (bytesOf s) r := by
  unfold clock_run.f
  rcases cut_one s 45 hs with ⟨h1, h2⟩ | ⟨a, b, h1, h2, h3, h4⟩
  · obtain ⟨r, hr1, hr2⟩ := number_ev s hs
    exact ⟨_, Ev.call (Ev.const h2) (Ev.call hr1 (Ev.ifn (by simp) (Ev.now _))), run_one _ r h1 hr2⟩
  · obtain ⟨r, hr1, hr2⟩ := number_ev a (by omega)
    obtain ⟨q, hq1, hq2⟩ := number_ev b (by omega)
    refine ⟨if r.2 = true then (if q.2 = true then (r.1, q.1, decide (r.1 < q.1)) else (r.1, q.1, false)) else (r.1, q.1, false), Ev.call (Ev.const h4) (Ev.call hr1 (Ev.ifp rfl (Ev.call hq1 ?_))), ?_⟩
    · by_cases hr : r.2 = true
      · by_cases hq : q.2 = true
        · exact Ev.eq (Ev.ifp hr (Ev.ifp hq (Ev.now _))) (by rw [if_pos hr, if_pos hq])
        · exact Ev.eq (Ev.ifp hr (Ev.ifn hq (Ev.now _))) (by rw [if_pos hr, if_neg hq])
      · exact Ev.eq (Ev.ifn hr (Ev.now _)) (by rw [if_neg hr])
    · have h1' : Q.piecesA 45 [] (bytesOf s) = bytesOf a :: Q.piecesA 45 [] (bytesOf b) := h1
      by_cases hm : (45 : Int) ∈ bytesOf b
      · have hq : q.2 = false := by
          have h5 := Q.numN_free (bytesOf b) 45 (by omega) hm
          unfold NumAns at hq2
          rw [h5] at hq2
          exact hq2
        have hne : ∃ x y l, Q.piecesA 45 [] (bytesOf b) = x :: y :: l := by
          match hp : Q.piecesA 45 [] (bytesOf b) with
          | [] => exact absurd hp (Q.piecesA_ne _ _ _)
          | [x] =>
            exfalso
            have h6 := Q.pieces_back 45 (bytesOf b) []
            rw [hp] at h6
            have h7 : x = bytesOf b := h6
            exact Q.piecesA_out 45 (bytesOf b) [] (by simp) x (by rw [hp]; exact List.mem_cons_self) (by rw [h7]; exact hm)
          | x :: y :: l => exact ⟨x, y, l, rfl⟩
        obtain ⟨x, y, l, hp⟩ := hne
        rw [hp] at h1'
        have h8 := fun u v => run_more _ _ _ _ _ h1' u v
        rw [hq]
        by_cases hr : r.2 = true
        · rw [if_pos hr, if_neg (by decide)]; exact h8 _ _
        · rw [if_neg hr]; exact h8 _ _
      · rw [Q.piecesA_free 45 (bytesOf b) hm [], List.nil_append] at h1'
        exact run_two _ _ _ r q h1' hr2 hq2
theorem rd_map (ps : List (List Int)) (i : Nat) (h : i < ps.length) : rdOf ByteArray.empty (ps.map strOfNums) (i : Int) = strOfNums ps[i] := by simp [rdOf, h]
end Go.Proofs.YtnagecfpbkffpaaDoor.P
end
section
namespace Go.Proofs.YtnagecfpbkffpaaDoor.P
open Go.RowKit Go.Proofs.YtnagecfpbkffpaaDoorW.PrintWords
set_option linter.unusedVariables false
set_option linter.unusedSimpArgs false
def pwkB (s : ByteArray) : Int × Int := Q.parseWN (bytesOf s)
theorem shl_one (x : Nat) (hx : x < 20) : shl .u32 1 (x : Int) = ((2 ^ x : Nat) : Int) := by
  unfold shl
  rw [show min (x : Int).toNat IntKind.u32.bits = x by show min (x : Int).toNat 32 = x; omega]
  have h : 2 ^ x ≤ 2 ^ 19 := Nat.pow_le_pow_right (by decide) (by omega)
  have e : (1 : Int) * 2 ^ x = ((2 ^ x : Nat) : Int) := by rw [Int.one_mul]; norm_cast
  rw [e]
  show ((2 ^ x : Nat) : Int) % 4294967296 = _
  generalize 2 ^ x = p at h ⊢
  omega
theorem or_bit (A x : Nat) (hA : A < 2 ^ x) (hx : x < 20) : Go.bits .or .u32 (A : Int) (shl .u32 1 (x : Int)) = ((A + 2 ^ x : Nat) : Int) := by
  have h : 2 ^ x ≤ 2 ^ 19 := Nat.pow_le_pow_right (by decide) (by omega)
  rw [shl_one x hx, u32_or_nat _ _ (by omega) (by omega)]
  have h2 := Nat.two_pow_add_eq_or_of_lt hA 1
  rw [Nat.mul_one, Nat.or_comm] at h2
  rw [← h2, Nat.add_comm]
theorem or_loop (fits : Bool) (next b : Int) (L : List ByteArray) (len idx : Int) (hb : b ≤ 20) {r : Int × Int} : ∀ (d x : Nat) (acc : Int), (x : Int) + d = b →
    (∀ acc' : Int, (∀ A : Nat, acc = (A : Int) → A < 2 ^ x → acc' = ((A + (2 ^ b.toNat - 2 ^ x) : Nat) : Int)) → Ev (fun k => clock_ParseWeeks.l0 k acc' next fits L len (wrap64 (idx + 1))) r) →
    Ev (fun k => clock_ParseWeeks.l1 k acc next fits b (x : Int) L len idx) r := by
  intro d
  induction d with
  | zero =>
    intro x acc hx h
    refine Ev.step (fun k => clock_ParseWeeks.l1.eq_2 ..) (Ev.ifn (by omega) (h acc ?_))
    intro A hA _
    rw [show b.toNat = x by omega, Nat.sub_self, Nat.add_zero, hA]
  | succ d ih =>
    intro x acc hx h
    refine Ev.step (fun k => clock_ParseWeeks.l1.eq_2 ..) (Ev.ifp (by omega) (Ev.ifp (by omega) ?_))
    rw [w64_in (by omega) (by omega)]
    refine ih (x + 1) _ (by omega) (fun acc' hacc => h acc' ?_)
    intro A hA hlt
    have h5 : 2 ^ (x + 1) = 2 ^ x + 2 ^ x := by rw [Nat.pow_succ]; omega
    have h6 : 2 ^ (x + 1) ≤ 2 ^ b.toNat := Nat.pow_le_pow_right (by decide) (by omega)
    have h7 := hacc (A + 2 ^ x) (by rw [hA, or_bit A x hlt (by omega)]) (by omega)
    rw [h7]
    congr 1
    omega
theorem run_range (p : List Int) (a b : Int) (h : Q.runP p = some (a, b)) : 0 ≤ a ∧ a ≤ b ∧ b < 100 := by
  unfold Q.runP at h
  match hp : Q.piecesA 45 [] p, h with
  | [x], h =>
    simp only at h
    obtain ⟨n, hn, h2⟩ := Option.bind_eq_some_iff.1 h
    have h3 : n = a ∧ n = b := by simpa using h2
    obtain ⟨h4, h5, _⟩ := Q.numN_of x n hn
    omega
  | [x, y], h =>
    simp only at h
    obtain ⟨n, hn, h2⟩ := Option.bind_eq_some_iff.1 h
    obtain ⟨m, hm, h3⟩ := Option.bind_eq_some_iff.1 h2
    by_cases hlt : n < m
    · rw [if_pos hlt] at h3
      have h4 : n = a ∧ m = b := by simpa using h3
      obtain ⟨h5, h6, _⟩ := Q.numN_of x n hn
      obtain ⟨h8, h9, _⟩ := Q.numN_of y m hm
      omega
    · rw [if_neg hlt] at h3
      cases h3
theorem pwk_loop (ps : List (List Int)) (hl : ps.length ≤ 1000000) (hm : ∀ p ∈ ps, p.length ≤ 1000000) (hB : ∀ p ∈ ps, Q.Bs p) : ∀ (d i : Nat) (accI : Int) (acc : Nat) (next : Int) (fits : Bool), i ≤ ps.length → ps.length - i ≤ d →
    0 ≤ next → next ≤ 102 → (fits = true → accI = (acc : Int) ∧ acc < 2 ^ (next - 2).toNat) →
    Ev (fun k => clock_ParseWeeks.l0 k accI next fits (ps.map strOfNums) (ps.length : Int) (i : Int)) (Q.pwkN (ps.drop i) next acc fits) := by
  have hend : ∀ (i : Nat) (accI : Int) (acc : Nat) (next : Int) (fits : Bool), ps.length ≤ i → (fits = true → accI = (acc : Int) ∧ acc < 2 ^ (next - 2).toNat) →
      Ev (fun k => clock_ParseWeeks.l0 k accI next fits (ps.map strOfNums) (ps.length : Int) (i : Int)) (Q.pwkN (ps.drop i) next acc fits) := by
    intro i accI acc next fits h hf
    rw [List.drop_eq_nil_of_le h, Q.pwkN]
    refine Ev.step (fun k => clock_ParseWeeks.l0.eq_2 ..) (Ev.ifn (by omega) ?_)
    cases fits with
    | true => exact Ev.eq (Ev.ifp rfl (Ev.now _)) (by rw [(hf rfl).1]; rfl)
    | false => exact Ev.eq (Ev.ifn (by decide) (Ev.now _)) rfl
  intro d
  induction d with
  | zero => intro i accI acc next fits h1 hd h0 hn hf; exact hend i accI acc next fits (by omega) hf
  | succ d ih =>
    intro i accI acc next fits h1 hd h0 hn hf
    by_cases hi : i < ps.length
    · have hz := hm ps[i] (List.getElem_mem hi)
      obtain ⟨r, hr1, hr2⟩ := run_ev (strOfNums ps[i]) (by rw [strOfNums_size]; omega)
      rw [bytes_str _ (hB ps[i] (List.getElem_mem hi))] at hr2
      refine Ev.step (fun k => clock_ParseWeeks.l0.eq_2 ..) (Ev.ifp (by omega) (Ev.ifp (by omega) (Ev.ifp (by rw [List.length_map]; omega) ?_)))
      rw [rd_map ps i hi, List.drop_eq_getElem_cons hi, Q.pwkN]
      refine Ev.call hr1 ?_
      unfold RunAns at hr2
      have hw : wrap64 ((i : Int) + 1) = ((i + 1 : Nat) : Int) := by rw [w64_in (by omega) (by omega)]; rfl
      cases hrun : Q.runP ps[i] with
      | none =>
        rw [hrun] at hr2
        exact Ev.ifn (by rw [hr2]; decide) (Ev.step (fun k => clock_ParseWeeks.j1.eq_2 ..) (Ev.ifp rfl (Ev.now _)))
      | some ab =>
        obtain ⟨a, b⟩ := ab
        rw [hrun] at hr2
        simp only at hr2 ⊢
        subst hr2
        obtain ⟨g1, g2, g3⟩ := run_range _ a b hrun
        refine Ev.ifp rfl (Ev.step (fun k => clock_ParseWeeks.j1.eq_2 ..) ?_)
        by_cases hlt : a < next
        · rw [if_pos hlt]
          exact Ev.ifp (decide_eq_true hlt) (Ev.now _)
        · rw [if_neg hlt]
          refine Ev.ifn (by simpa using hlt) ?_
          have hw2 : wrap64 (b + 2) = b + 2 := w64_in (by omega) (by omega)
          have hout : Ev (fun k => clock_ParseWeeks.j2 k accI (wrap64 (b + 2)) fits a b (ps.map strOfNums) (ps.length : Int) (i : Int) true) (Q.pwkN (ps.drop (i + 1)) (b + 2) acc false) := by
            refine Ev.step (fun k => clock_ParseWeeks.j2.eq_2 ..) (Ev.ifp rfl ?_)
            rw [hw, hw2]
            exact ih (i + 1) accI acc (b + 2) false (by omega) (by omega) (by omega) (by omega) (fun h => by cases h)
          by_cases ha : a < 1
          · rw [if_pos (.inl ha)]
            exact Ev.ifp ha hout
          · refine Ev.ifn ha ?_
            by_cases hb : b > 20
            · rw [if_pos (.inr hb), decide_eq_true hb]
              exact hout
            · rw [if_neg (by omega), decide_eq_false hb]
              refine Ev.step (fun k => clock_ParseWeeks.j2.eq_2 ..) (Ev.ifn (by decide) ?_)
              rw [w64_in (x := a - 1) (by omega) (by omega), hw2]
              have hx : a - 1 = (((a - 1).toNat : Nat) : Int) := by omega
              rw [hx]
              refine or_loop fits (b + 2) b _ _ _ (by omega) (b - (a - 1)).toNat (a - 1).toNat accI (by omega) (fun acc' hacc => ?_)
              rw [hw, Int.toNat_natCast]
              have hp0 : 2 ^ (next - 2).toNat ≤ 2 ^ (a - 1).toNat := Nat.pow_le_pow_right (by decide) (by omega)
              have hp1 : 2 ^ (a - 1).toNat ≤ 2 ^ b.toNat := Nat.pow_le_pow_right (by decide) (by omega)
              refine ih (i + 1) acc' (acc + (2 ^ b.toNat - 2 ^ (a - 1).toNat)) (b + 2) fits (by omega) (by omega) (by omega) (by omega) (fun h => ?_)
              obtain ⟨f1, f2⟩ := hf h
              refine ⟨hacc acc f1 (by omega), ?_⟩
              rw [show (b + 2 - 2).toNat = b.toNat by omega]
              omega
    · exact hend i accI acc next fits (by omega) hf
theorem pieces_facts (s : ByteArray) (c : Int) (hs : s.size ≤ 200000) : (Q.piecesA c [] (bytesOf s)).length ≤ 1000000 ∧ (∀ p ∈ Q.piecesA c [] (bytesOf s), p.length ≤ 1000000) ∧ (∀ p ∈ Q.piecesA c [] (bytesOf s), Q.Bs p) := by
  have h1 := Q.piecesA_length c (bytesOf s) []
  have h2 := Q.piecesA_size c (bytesOf s) []
  rw [bytesOf_length] at h1 h2
  refine ⟨by omega, fun p hp => ?_, Q.piecesA_Bs c (bytesOf s) (bytes_Bs s) [] (fun _ h => by cases h)⟩
  have := h2 p hp
  simp only [List.length_nil] at this
  omega
theorem pwk_ev (s : ByteArray) (hs : s.size ≤ 200000) : Ev (fun k => clock_ParseWeeks.f k s) (pwkB s) := by
  obtain ⟨h1, h2, h3⟩ := pieces_facts s 44 hs
  unfold clock_ParseWeeks.f
  refine Ev.call (strsplit_ev s 44 (by omega)) ?_
  unfold cutB
  rw [List.length_map]
  exact pwk_loop (Q.piecesA 44 [] (bytesOf s)) h1 h2 h3 _ 0 0 0 0 true (by omega) (Nat.le_refl _) (by omega) (by omega) (fun _ => ⟨rfl, by decide⟩)
end Go.Proofs.YtnagecfpbkffpaaDoor.P
end
section
namespace Go.Proofs.YtnagecfpbkffpaaDoor.P
open Go.RowKit Go.Proofs.YtnagecfpbkffpaaDoorW.PrintWords
set_option linter.unusedVariables false
set_option linter.unusedSimpArgs false
theorem Ev.one {α : Type} {f : Nat → Option α} {a b : α} (h : Ev f a) (k : Ev f b) : a = b := by
  obtain ⟨n, h⟩ := h
  obtain ⟨m, k⟩ := k
  have h1 := h (n + m) (by omega)
  have h2 := k (n + m) (by omega)
  exact Option.some.inj (h1.symm.trans h2)
theorem days_eq (d : Int) (h0 : 0 ≤ d) (h1 : d ≤ 255) : clock_Days.f d = some (strOfNums (daysL d 7)) := if_pos ⟨h0, h1⟩
theorem idx_all : ∀ c : Fin 256, strings_IndexByte.f dayLetters (c.1 : Int) = some (-1) ∨ ∃ k : Fin 7, strings_IndexByte.f dayLetters (c.1 : Int) = some (k.1 : Int) ∧ bt dayLetters (k.1 : Int) = (c.1 : Int) := by decide +kernel
theorem or_day : ∀ k : Fin 7, ∀ d : Fin 128, d.1 < 2 ^ k.1 → Go.bits .or .u8 (d.1 : Int) (shl .u8 1 (k.1 : Int)) = ((d.1 + 2 ^ k.1 : Nat) : Int) ∧ daysL ((d.1 + 2 ^ k.1 : Nat) : Int) 7 = daysL (d.1 : Int) 7 ++ [bt dayLetters (k.1 : Int)] := by decide +kernel
theorem days_inj : ∀ d : Fin 128, ∀ e : Fin 128, daysL (d.1 : Int) 7 = daysL (e.1 : Int) 7 → d.1 = e.1 := by decide +kernel
theorem pd_back : ∀ d : Fin 256, clock_ParseDays.f 20 (strOfNums (daysL (d.1 : Int) 7)) = some (if d.1 % 128 = 0 then (0, 3) else (((d.1 % 128 : Nat) : Int), 0)) := by decide +kernel
theorem days_Bs : ∀ d : Fin 256, Q.Bs (daysL (d.1 : Int) 7) := by
  have h : ∀ d : Fin 256, (daysL (d.1 : Int) 7).all (fun c => decide (0 ≤ c ∧ c ≤ 255)) = true := by decide +kernel
  intro d c hc
  have := List.all_eq_true.1 (h d) c hc
  simp only [decide_eq_true_eq] at this
  omega
def findD : Nat → Nat → List Int → Int × Int
  | 0, _, _ => (0, 3)
  | n + 1, d, l => if daysL (d : Int) 7 = l then ((d : Int), 0) else findD n (d + 1) l
def pdB (s : ByteArray) : Int × Int := findD 127 1 (bytesOf s)
theorem findD_or (n : Nat) : ∀ d l, (findD n d l = (0, 3) ∧ ∀ e, d ≤ e → e < d + n → daysL (e : Int) 7 ≠ l) ∨ ∃ e : Nat, d ≤ e ∧ e < d + n ∧ findD n d l = ((e : Int), 0) ∧ daysL (e : Int) 7 = l := by
  induction n with
  | zero => intro d l; exact .inl ⟨rfl, fun e h1 h2 => by omega⟩
  | succ n ih =>
    intro d l
    rw [findD]
    by_cases h : daysL (d : Int) 7 = l
    · rw [if_pos h]; exact .inr ⟨d, Nat.le_refl _, by omega, rfl, h⟩
    · rw [if_neg h]
      rcases ih (d + 1) l with ⟨h1, h2⟩ | ⟨e, h1, h2, h3⟩
      · refine .inl ⟨h1, fun e h3 h4 => ?_⟩
        rcases Nat.eq_or_lt_of_le h3 with rfl | h5
        · exact h
        · exact h2 e h5 (by omega)
      · exact .inr ⟨e, by omega, by omega, h3⟩
theorem pdB_or (s : ByteArray) : (pdB s = (0, 3) ∧ ∀ e : Nat, 1 ≤ e → e < 128 → daysL (e : Int) 7 ≠ bytesOf s) ∨ ∃ e : Nat, 1 ≤ e ∧ e < 128 ∧ pdB s = ((e : Int), 0) ∧ daysL (e : Int) 7 = bytesOf s := findD_or 127 1 (bytesOf s)
theorem pdB_hit (s : ByteArray) (d : Nat) (h0 : 1 ≤ d) (h1 : d < 128) (h : bytesOf s = daysL (d : Int) 7) : pdB s = ((d : Int), 0) := by
  rcases pdB_or s with ⟨_, h2⟩ | ⟨e, h2, h3, h4, h5⟩
  · exact absurd h.symm (h2 d h0 h1)
  · have := days_inj ⟨d, h1⟩ ⟨e, h3⟩ (h.symm.trans h5.symm)
    rw [h4]
    simp only at this
    rw [this]
theorem pd_loop (s : ByteArray) (hs : s.size ≤ 140737488351232) : ∀ (n : Nat) (i : Int) (d t : Nat), 0 ≤ i → i ≤ s.size → (s.size : Int) - i ≤ n → t ≤ 7 → d < 2 ^ t → (bytesOf s).take i.toNat = daysL (d : Int) 7 →
    ∃ r, Ev (fun k => clock_ParseDays.l0 k s (d : Int) ((t : Int) - 1) s.size i) r ∧ (r = (0, 3) ∨ ∃ e : Nat, r = ((e : Int), 0) ∧ 1 ≤ e ∧ e < 128 ∧ bytesOf s = daysL (e : Int) 7) := by
  have hend : ∀ (i : Int) (d t : Nat), i = s.size → t ≤ 7 → d < 2 ^ t → (bytesOf s).take i.toNat = daysL (d : Int) 7 →
      ∃ r, Ev (fun k => clock_ParseDays.l0 k s (d : Int) ((t : Int) - 1) s.size i) r ∧ (r = (0, 3) ∨ ∃ e : Nat, r = ((e : Int), 0) ∧ 1 ≤ e ∧ e < 128 ∧ bytesOf s = daysL (e : Int) 7) := by
    intro i d t hi ht hd h
    rw [List.take_of_length_le (by rw [bytesOf_length]; omega)] at h
    have h128 : 2 ^ t ≤ 2 ^ 7 := Nat.pow_le_pow_right (by decide) ht
    by_cases h0 : (d : Int) = 0
    · exact ⟨_, Ev.step (fun k => clock_ParseDays.l0.eq_2 ..) (Ev.ifn (by omega) (Ev.ifp h0 (Ev.now _))), .inl rfl⟩
    · exact ⟨_, Ev.step (fun k => clock_ParseDays.l0.eq_2 ..) (Ev.ifn (by omega) (Ev.ifn h0 (Ev.now _))), .inr ⟨d, rfl, by omega, by omega, h⟩⟩
  intro n
  induction n with
  | zero => intro i d t h0 h1 hn ht hd h; exact hend i d t (by omega) ht hd h
  | succ n ih =>
    intro i d t h0 h1 hn ht hd h
    by_cases hi : i < s.size
    · have hr := bt_range s i
      have h128 : 2 ^ t ≤ 2 ^ 7 := Nat.pow_le_pow_right (by decide) ht
      have hidx := idx_all ⟨(bt s i).toNat, by omega⟩
      have e : (((bt s i).toNat : Nat) : Int) = bt s i := by omega
      simp only [e] at hidx
      rcases hidx with h2 | ⟨⟨j, hj⟩, h2, h3⟩
      · exact ⟨_, Ev.step (fun k => clock_ParseDays.l0.eq_2 ..) (Ev.ifp hi (Ev.ifp h0 (Ev.ifp hi (Ev.call (Ev.const h2) (Ev.ifp (by omega) (Ev.now _)))))), .inl rfl⟩
      · simp only at h2 h3
        by_cases hjt : j < t
        · exact ⟨_, Ev.step (fun k => clock_ParseDays.l0.eq_2 ..) (Ev.ifp hi (Ev.ifp h0 (Ev.ifp hi (Ev.call (Ev.const h2) (Ev.ifp (by omega) (Ev.now _)))))), .inl rfl⟩
        · have hp : 2 ^ t ≤ 2 ^ j := Nat.pow_le_pow_right (by decide) (by omega)
          obtain ⟨h4, h5⟩ := or_day ⟨j, hj⟩ ⟨d, by omega⟩ (by show d < 2 ^ j; omega)
          simp only at h4 h5
          have hp2 : 2 ^ (j + 1) = 2 ^ j + 2 ^ j := by rw [Nat.pow_succ]; omega
          obtain ⟨r, hr1, hr2⟩ := ih (i + 1) (d + 2 ^ j) (j + 1) (by omega) (by omega) (by omega) (by omega) (by omega) (by
            rw [h5, ← h, h3]
            have hl : i.toNat < (bytesOf s).length := by rw [bytesOf_length]; omega
            rw [show (i + 1).toNat = i.toNat + 1 by omega, List.take_succ_eq_append_getElem hl, bt_get]
            simp [List.getD_eq_getElem?_getD, hl])
          refine ⟨r, Ev.step (fun k => clock_ParseDays.l0.eq_2 ..) (Ev.ifp hi (Ev.ifp h0 (Ev.ifp hi (Ev.call (Ev.const h2) (Ev.ifn (by omega) (Ev.ifp (by omega) ?_)))))), hr2⟩
          rw [h4, w64_in (by omega) (by omega)]
          have ej : ((j + 1 : Nat) : Int) - 1 = (j : Int) := by omega
          rw [ej] at hr1
          exact hr1
    · exact hend i d t (by omega) ht hd h
theorem pd_ev (s : ByteArray) (hs : s.size ≤ 140737488351232) : Ev (fun k => clock_ParseDays.f k s) (pdB s) := by
  obtain ⟨r, h1, h2⟩ := pd_loop s hs s.size 0 0 0 (by omega) (by omega) (by omega) (by omega) (by decide) (by rw [Int.toNat_zero, List.take_zero]; decide)
  have h3 : Ev (fun k => clock_ParseDays.f k s) r := h1
  rcases h2 with rfl | ⟨e, rfl, h4, h5, h6⟩
  · rcases pdB_or s with ⟨h7, _⟩ | ⟨e, h4, h5, h7, h8⟩
    · rw [h7]; exact h3
    · exfalso
      have h9 := pd_back ⟨e, by omega⟩
      simp only at h9
      rw [h8, str_bytes, if_neg (by omega)] at h9
      have h10 := Ev.one h3 (Ev.of (fun k => clock_ParseDays.mono s k) h9)
      simp at h10
  · rw [pdB_hit s e h4 h5 h6]
    exact h3
end Go.Proofs.YtnagecfpbkffpaaDoor.P
end
section
namespace Go.Proofs.YtnagecfpbkffpaaDoor.Q
open Go.Proofs.YtnagecfpbkffpaaDoor.P Go.Proofs.YtnagecfpbkffpaaDoorW.PrintWords
set_option linter.unusedVariables false
set_option linter.unusedSimpArgs false
def timeL (w d s l : Int) : List Int := joinN 32 [weeksL w.toNat, daysL d 7, joinN 43 [dec s.toNat, dec l.toNat]]
def slotsN (p : List Int) : Int × Int × Int :=
  match piecesA 43 [] p with
  | [x, y] => if (pwN x).2 = 3 ∨ (pwN y).2 = 3 then (0, 0, 3) else if (pwN x).2 = 0 ∧ (pwN y).2 = 0 ∧ (pwN x).1 ≤ 1000 ∧ (pwN y).1 ≤ 1000 then ((pwN x).1, (pwN y).1, 0) else (0, 0, 6)
  | _ => (0, 0, 3)
def timeN (a b c : Int) (e f : Int × Int) (h : Int × Int × Int) : Int × Int × Int × Int × Int :=
  if e.2 = 3 ∨ f.2 = 3 ∨ h.2.2 = 3 then (0, 0, 0, 0, 3) else if e.2 = 0 ∧ h.2.2 = 0 ∧ rightB a b c e.1 f.1 h.1 h.2.1 = true then (e.1, f.1, h.1, h.2.1, 0) else (0, 0, 0, 0, 6)
def parseN (a b c : Int) (p : List Int) : Int × Int × Int × Int × Int :=
  if gridB a b c = true then
    match piecesA 32 [] p with
    | [x, y, z] => timeN a b c (parseWN x) (findD 127 1 y) (slotsN z)
    | _ => (0, 0, 0, 0, 3)
  else (0, 0, 0, 0, 10)
theorem pw_free (p : List Int) (c : Int) (hc : ¬ (48 ≤ c ∧ c ≤ 57)) (h : c ∈ p) : pwN p = (0, 3) := by
  unfold pwN
  have hs : shapedN p = false := by
    unfold shapedN
    have : p.all digitI = false := by
      rw [Bool.eq_false_iff]
      intro h2
      have := List.all_eq_true.1 h2 c h
      simp only [digitI, decide_eq_true_eq] at this
      exact hc this
    rw [this, Bool.false_and]
  rw [hs]
  simp
theorem pw_cases (p : List Int) : (pwN p = (0, 3)) ∨ (pwN p = (0, 6)) ∨ ∃ n : Int, 0 ≤ n ∧ n < 18446744073709551616 ∧ pwN p = (n, 0) := by
  rcases pw_code p with h | h | h
  · have h2 : pwN p = ((pwN p).1, 0) := Prod.ext rfl h
    obtain ⟨h3, h4, _⟩ := pw_of p _ h2
    exact .inr (.inr ⟨_, h3, h4, h2⟩)
  · exact .inl h
  · exact .inr (.inl h)
theorem pieces_two (c : Int) (b : List Int) (h : c ∈ b) : ∃ x y l, piecesA c [] b = x :: y :: l := by
  match hp : piecesA c [] b with
  | [] => exact absurd hp (piecesA_ne _ _ _)
  | [x] =>
    exfalso
    have h6 := pieces_back c b []
    rw [hp] at h6
    have h7 : x = b := h6
    have h8 := piecesA_out c b [] (by simp) x (by rw [hp]; simp)
    rw [h7] at h8
    exact h8 h
  | x :: y :: l => exact ⟨x, y, l, rfl⟩
theorem pieces_one (c : Int) (b : List Int) (h : c ∉ b) : piecesA c [] b = [b] := by
  have := piecesA_free c b h []
  rwa [List.nil_append] at this
theorem joinN_mem (c : Int) : ∀ (ps : List (List Int)) (x : Int), x ∈ joinN c ps → x = c ∨ ∃ p ∈ ps, x ∈ p
  | [], x, h => by cases h
  | [p], x, h => .inr ⟨p, by simp, h⟩
  | p :: q :: ps, x, h => by
    rw [joinN] at h
    rcases List.mem_append.1 h with h | h
    · exact .inr ⟨p, by simp, h⟩
    · rcases List.mem_cons.1 h with h | h
      · exact .inl h
      · rcases joinN_mem c (q :: ps) x h with h | ⟨p', h1, h2⟩
        · exact .inl h
        · exact .inr ⟨p', by simp [h1], h2⟩
theorem weeks_no_blank (w : Nat) : (32 : Int) ∉ weeksL w := by
  intro h
  rcases joinN_mem 44 _ _ h with h | ⟨p, h1, h2⟩
  · omega
  · obtain ⟨r, _, rfl⟩ := List.mem_map.1 h1
    have := runT_mem r 32 h2
    omega
theorem days_no_blank : ∀ d : Fin 256, (32 : Int) ∉ daysL (d.1 : Int) 7 := by decide +kernel
theorem dec_free (n : Nat) (c : Int) (hc : ¬ (48 ≤ c ∧ c ≤ 57)) : c ∉ dec n := fun h => hc (dec_digit n c h)
theorem slot_free (s l : Nat) : (32 : Int) ∉ joinN 43 [dec s, dec l] := by
  intro h
  rcases joinN_mem 43 _ _ h with h | ⟨p, h1, h2⟩
  · omega
  · simp only [List.mem_cons, List.not_mem_nil, or_false] at h1
    rcases h1 with rfl | rfl
    · exact dec_free s 32 (by omega) h2
    · exact dec_free l 32 (by omega) h2
theorem time_pieces (w d s l : Int) (hd0 : 0 ≤ d) (hd1 : d ≤ 255) : piecesA 32 [] (timeL w d s l) = [weeksL w.toNat, daysL d 7, joinN 43 [dec s.toNat, dec l.toNat]] := by
  refine pieces_join 32 _ (by simp) ?_
  intro p hp
  simp only [List.mem_cons, List.not_mem_nil, or_false] at hp
  rcases hp with rfl | rfl | rfl
  · exact weeks_no_blank _
  · have h := days_no_blank ⟨d.toNat, by omega⟩
    rwa [show (((⟨d.toNat, by omega⟩ : Fin 256).1 : Nat) : Int) = d by show ((d.toNat : Nat) : Int) = d; omega] at h
  · exact slot_free _ _
theorem pw_dec97 : ∀ n : Fin 97, pwN (dec n.1) = ((n.1 : Int), 0) := by decide +kernel
theorem slots_of (s l : Int) (hs0 : 0 ≤ s) (hs1 : s ≤ 96) (hl0 : 0 ≤ l) (hl1 : l ≤ 96) : slotsN (joinN 43 [dec s.toNat, dec l.toNat]) = (s, l, 0) := by
  unfold slotsN
  rw [pieces_join 43 _ (by simp) (by
    intro p hp
    simp only [List.mem_cons, List.not_mem_nil, or_false] at hp
    rcases hp with rfl | rfl
    · exact dec_free _ 43 (by omega)
    · exact dec_free _ 43 (by omega))]
  have h1 := pw_dec97 ⟨s.toNat, by omega⟩
  have h2 := pw_dec97 ⟨l.toNat, by omega⟩
  simp only at h1 h2 ⊢
  rw [h1, h2]
  simp only
  rw [if_neg (by omega), if_pos (by refine ⟨trivial, trivial, ?_, ?_⟩ <;> omega), show ((s.toNat : Nat) : Int) = s by omega, show ((l.toNat : Nat) : Int) = l by omega]
theorem right_bounds {a b c w d s l : Int} (h : rightB a b c w d s l = true) : gridB a b c = true ∧ 0 ≤ s ∧ s ≤ 96 ∧ 1 ≤ l ∧ l ≤ 96 ∧ w ≠ 0 ∧ w < 1048576 ∧ d ≠ 0 ∧ d < 128 := by
  unfold rightB at h
  rw [Bool.and_eq_true, decide_eq_true_eq] at h
  obtain ⟨hg, h1, h2, h3, h4, h5, h6, h7⟩ := h
  have hg2 := hg
  simp only [gridB, decide_eq_true_eq] at hg2
  have p1 : (2 : Nat) ^ a.toNat ≤ 2 ^ 20 := Nat.pow_le_pow_right (by decide) (by omega)
  have p2 : (2 : Nat) ^ b.toNat ≤ 2 ^ 7 := Nat.pow_le_pow_right (by decide) (by omega)
  rw [pow_cast] at h5 h7
  generalize (2 : Nat) ^ a.toNat = u at *
  generalize (2 : Nat) ^ b.toNat = v at *
  exact ⟨hg, h1, by omega, h2, by omega, h4, by omega, h6, by omega⟩
theorem time_back {a b c w d s l : Int} (h : rightB a b c w d s l = true) (hw : 0 ≤ w) (hd : 0 ≤ d) : parseN a b c (timeL w d s l) = (w, d, s, l, 0) := by
  obtain ⟨hg, h1, h2, h3, h4, h5, h6, h7, h8⟩ := right_bounds h
  unfold parseN
  rw [if_pos hg, time_pieces w d s l hd (by omega)]
  simp only
  have e1 : parseWN (weeksL w.toNat) = (w, 0) := by
    rw [weeks_back, Nat.mod_eq_of_lt (by omega), if_neg (by omega), show ((w.toNat : Nat) : Int) = w by omega]
  have e2 : findD 127 1 (daysL d 7) = (d, 0) := by
    have hb : bytesOf (strOfNums (daysL d 7)) = daysL d 7 := by
      have := days_Bs ⟨d.toNat, by omega⟩
      rw [show (((⟨d.toNat, by omega⟩ : Fin 256).1 : Nat) : Int) = d by show ((d.toNat : Nat) : Int) = d; omega] at this
      exact bytes_str _ this
    have h9 := pdB_hit (strOfNums (daysL d 7)) d.toNat (by omega) (by omega) (by rw [hb, show ((d.toNat : Nat) : Int) = d by omega])
    unfold pdB at h9
    rw [hb, show ((d.toNat : Nat) : Int) = d by omega] at h9
    exact h9
  rw [e1, e2, slots_of s l h1 h2 (by omega) h4]
  unfold timeN
  simp only
  rw [if_neg (by omega), if_pos ⟨trivial, trivial, h⟩]
theorem time_of {a b c : Int} {p : List Int} {w d s l : Int} (h : parseN a b c p = (w, d, s, l, 0)) : rightB a b c w d s l = true ∧ 0 ≤ w ∧ 0 ≤ d ∧ timeL w d s l = p := by
  unfold parseN at h
  by_cases hg : gridB a b c = true
  · rw [if_pos hg] at h
    split at h
    · rename_i x y z hp
      unfold timeN at h
      by_cases h1 : (parseWN x).2 = 3 ∨ (findD 127 1 y).2 = 3 ∨ (slotsN z).2.2 = 3
      · rw [if_pos h1] at h; simp at h
      · rw [if_neg h1] at h
        by_cases h2 : (parseWN x).2 = 0 ∧ (slotsN z).2.2 = 0 ∧ rightB a b c (parseWN x).1 (findD 127 1 y).1 (slotsN z).1 (slotsN z).2.1 = true
        · rw [if_pos h2] at h
          simp only [Prod.mk.injEq, and_true] at h
          obtain ⟨e1, e2, e3, e4⟩ := h
          obtain ⟨h2, h3, h4⟩ := h2
          rw [e1, e2, e3, e4] at h4
          have hx := weeks_of x w (Prod.ext e1 h2)
          have hy : ∃ e : Nat, 1 ≤ e ∧ e < 128 ∧ (e : Int) = d ∧ daysL (e : Int) 7 = y := by
            rcases findD_or 127 1 y with ⟨h5, _⟩ | ⟨e, h5, h6, h7, h8⟩
            · rw [h5] at h1; simp at h1
            · exact ⟨e, h5, by omega, by rw [← e2, h7], h8⟩
          obtain ⟨e, he1, he2, rfl, hy⟩ := hy
          have hz : joinN 43 [dec s.toNat, dec l.toNat] = z := by
            have hs : slotsN z = (s, l, 0) := Prod.ext e3 (Prod.ext e4 h3)
            unfold slotsN at hs
            split at hs
            · rename_i u v hq
              have hb := pieces_back 43 z []
              rw [hq, List.nil_append] at hb
              by_cases h5 : (pwN u).2 = 3 ∨ (pwN v).2 = 3
              · rw [if_pos h5] at hs; simp at hs
              · rw [if_neg h5] at hs
                by_cases h6 : (pwN u).2 = 0 ∧ (pwN v).2 = 0 ∧ (pwN u).1 ≤ 1000 ∧ (pwN v).1 ≤ 1000
                · rw [if_pos h6] at hs
                  simp only [Prod.mk.injEq, and_true] at hs
                  have hu := pw_of u s (Prod.ext hs.1 h6.1)
                  have hv := pw_of v l (Prod.ext hs.2 h6.2.1)
                  rw [← hb, hu.2.2, hv.2.2]
                · rw [if_neg h6] at hs; simp at hs
            · simp at hs
          have hb := pieces_back 32 p []
          rw [hp, List.nil_append] at hb
          refine ⟨h4, by omega, by omega, ?_⟩
          unfold timeL
          rw [hx.2.2, hy, hz, hb]
        · rw [if_neg h2] at h; simp at h
    · simp at h
  · rw [if_neg hg] at h; simp at h
theorem parse_empty (a b c : Int) : (parseN a b c []).2.2.2.2 ≠ 0 := by
  unfold parseN
  by_cases hg : gridB a b c = true
  · rw [if_pos hg]
    simp [piecesA]
  · rw [if_neg hg]
    simp
end Go.Proofs.YtnagecfpbkffpaaDoor.Q
end
