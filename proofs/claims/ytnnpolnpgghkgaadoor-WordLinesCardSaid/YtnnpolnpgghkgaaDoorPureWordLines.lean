import Derived.Test.YtnnpolnpgghkgaaDoorPx7
import Derived.Test.YtnnpolnpgghkgaaDoorPHeads02
import Derived.Test.YtnnpolnpgghkgaaDoorPSplitP
import Derived.Test.YtnnpolnpgghkgaaDoorPFew02
namespace Go.Proofs.YtnnpolnpgghkgaaDoor.Pure
open Go.RowKit Go.Proofs.YtnnpolnpgghkgaaDoor.P Go.Proofs.YtnnpolnpgghkgaaDoorW.PrintWords Go.Proofs.YtnnpolnpgghkgaaDoorW.PrintLast
set_option linter.unusedVariables false
set_option linter.unusedSimpArgs false
/-- the lines of a text -/
def linesB (s : ByteArray) : List ByteArray × Int := if s.size = 0 then ([], 0) else if bt s ((s.size : Int) - 1) = 10 then (cutB (s.extract 0 (s.size - 1)) 10, 0) else ([], 3)
theorem last_drop (s : ByteArray) (h : 0 < s.size) : (bytesOf s).drop (s.size - 1) = [bt s ((s.size : Int) - 1)] := by
  have h1 := bytes_drop s ((s.size : Int) - 1) (by omega) (by omega)
  have e1 : ((s.size : Int) - 1).toNat = s.size - 1 := by omega
  have e2 : ((s.size : Int) - 1 + 1).toNat = s.size := by omega
  have h3 : (bytesOf s).drop s.size = [] := List.drop_eq_nil_of_le (by rw [bytesOf_length]; exact Nat.le_refl _)
  rw [e1, e2, h3] at h1
  exact h1
theorem last_cut (s : ByteArray) (h : 0 < s.size) : (s.extract (s.size - 1) s.size).toList = [10] ↔ bt s ((s.size : Int) - 1) = 10 := by
  have e : s.extract (s.size - 1) s.size = strOfNums [bt s ((s.size : Int) - 1)] := by
    rw [extract_str, List.take_of_length_le (by rw [bytesOf_length]; exact Nat.le_refl _)]
    rw [last_drop s h]
  have hb := bt_range s ((s.size : Int) - 1)
  have h10 : (⟨#[10]⟩ : ByteArray).toList = [10] := by rw [ByteArray.toList_eq]
  rw [e, ← h10, toList_bytes, bytes_str _ (Q.Bs.mk hb (fun _ h => by cases h))]
  constructor
  · intro h; injection h
  · intro h; rw [h]; rfl
theorem lines_ev (s : ByteArray) (hs : s.size ≤ 3000) : Ev (fun k => word_Lines.f k s) (linesB s) := by
  unfold word_Lines.f linesB
  by_cases h0 : s.toList = []
  · rw [if_pos ((empty_bytes s).1 h0)]
    exact Ev.ifp h0 (Ev.now _)
  · have hp : s.size ≠ 0 := fun h => h0 ((empty_bytes s).2 h)
    rw [if_neg hp]
    refine Ev.ifn h0 ?_
    have hc1 : ((⟨#[10]⟩ : ByteArray).size : Int) = 1 := rfl
    have w1 : wrap64 ((s.size : Int) - ((⟨#[10]⟩ : ByteArray).size : Int)) = (s.size : Int) - 1 := by rw [hc1]; exact w64_in (by omega) (by omega)
    have hsuf : stringslite_HasSuffix.f s ⟨#[10]⟩ = some (decide (bt s ((s.size : Int) - 1) = 10)) := by
      unfold stringslite_HasSuffix.f
      rw [w1, if_pos (by rw [hc1]; omega), if_pos (by omega), if_pos (by omega), show ((s.size : Int) - 1).toNat = s.size - 1 by omega]
      congr 1
      have h10 : (⟨#[10]⟩ : ByteArray).toList = [10] := by rw [ByteArray.toList_eq]
      rw [h10, Bool.eq_iff_iff, beq_iff_eq, decide_eq_true_iff]
      exact last_cut s (by omega)
    by_cases hb : bt s ((s.size : Int) - 1) = 10
    · rw [if_pos hb]
      have hcut : strings_CutSuffix.f s ⟨#[10]⟩ = some (s.extract 0 (s.size - 1), true) := by
        unfold strings_CutSuffix.f stringslite_CutSuffix.f
        rw [hsuf, w1]
        simp only [Option.bind_some, hb, decide_true]
        rw [if_pos trivial, if_pos (by omega), if_pos (by omega), show ((s.size : Int) - 1).toNat = s.size - 1 by omega]
        rfl
      refine Ev.call (Ev.const hcut) (Ev.ifp rfl (Ev.call (strsplit_ev _ 10 ?_) (Ev.now _)))
      rw [ByteArray.size_extract]
      omega
    · rw [if_neg hb]
      have hcut : strings_CutSuffix.f s ⟨#[10]⟩ = some (s, false) := by
        unfold strings_CutSuffix.f stringslite_CutSuffix.f
        rw [hsuf]
        simp [hb]
      exact Ev.call (Ev.const hcut) (Ev.ifn (by simp) (Ev.now _))
theorem reflines_ev (s : ByteArray) (hs : s.size ≤ 3000) : Ev (fun k => horariumref02_Lines.f k s) (linesB s) := by
  unfold horariumref02_Lines.f linesB
  by_cases h0 : s.toList = []
  · rw [if_pos ((empty_bytes s).1 h0)]
    exact Ev.ifp h0 (Ev.now _)
  · have hp : s.size ≠ 0 := fun h => h0 ((empty_bytes s).2 h)
    rw [if_neg hp]
    have w1 : wrap64 ((s.size : Int) - 1) = (s.size : Int) - 1 := w64_in (by omega) (by omega)
    rw [w1]
    refine Ev.ifn h0 (Ev.ifp (by omega) (Ev.ifp (by omega) ?_))
    by_cases hb : bt s ((s.size : Int) - 1) = 10
    · rw [if_pos hb, show ((s.size : Int) - 1).toNat = s.size - 1 by omega]
      refine Ev.ifp hb (Ev.ifp (by omega) (Ev.call (refcut_ev _ 10 ?_) (Ev.now _)))
      rw [ByteArray.size_extract]
      omega
    · rw [if_neg hb]
      exact Ev.ifn hb (Ev.now _)
theorem reftext_loop (l : List ByteArray) (hl : l.length ≤ 1000) (hm : ∀ s ∈ l, s.size ≤ 1000000) : ∀ (d i : Nat), i ≤ l.length → l.length - i ≤ d →
    Ev (fun k => horariumref02_Text.l0 k l ⟨(textL (l.take i)).toArray⟩ i) ⟨(textL l).toArray⟩ := by
  have hsz : ∀ i, i ≤ l.length → (textL (l.take i)).length ≤ i * 1000001 := by
    intro i
    induction i with
    | zero => intro _; simp [textL]
    | succ i ih =>
      intro hi
      rw [textL_take l i (by omega)]
      have h1 := ih (by omega)
      have h2 := hm (l[i]'(by omega)) (List.getElem_mem _)
      have h3 := data_length (l[i]'(by omega))
      simp only [List.length_append, List.length_cons, List.length_nil, Nat.succ_mul]
      omega
  have hend : ∀ i, l.length ≤ i → Ev (fun k => horariumref02_Text.l0 k l ⟨(textL (l.take i)).toArray⟩ i) ⟨(textL l).toArray⟩ := by
    intro i h
    refine Ev.step (fun k => horariumref02_Text.l0.eq_2 ..) (Ev.ifn (by omega) (Ev.eq (Ev.now _) ?_))
    rw [List.take_of_length_le h]
  intro d
  induction d with
  | zero => intro i h1 hd; exact hend i (by omega)
  | succ d ih =>
    intro i h1 hd
    by_cases hi : i < l.length
    · have hget : rdOf ByteArray.empty l (i : Int) = l[i] := by simp [rdOf, hi]
      have hz := hm l[i] (List.getElem_mem hi)
      have hx := hsz i (by omega)
      have hx2 : i * 1000001 ≤ 1000 * 1000001 := Nat.mul_le_mul_right _ (by omega)
      have hs1 : (⟨(textL (l.take i)).toArray⟩ : ByteArray).size = (textL (l.take i)).length := by simp [ByteArray.size]
      refine Ev.step (fun k => horariumref02_Text.l0.eq_2 ..) (Ev.ifp (by omega) (Ev.ifp (by omega) ?_))
      rw [hget]
      refine Ev.ifp (by rw [hs1]; omega) (Ev.ifp (by rw [ByteArray.size_append, hs1]; omega) ?_)
      rw [show wrap64 ((i : Int) + 1) = ((i + 1 : Nat) : Int) by rw [w64_in (by omega) (by omega)]; rfl]
      have e : (⟨(textL (l.take i)).toArray⟩ : ByteArray) ++ l[i] ++ ⟨#[10]⟩ = ⟨(textL (l.take (i + 1))).toArray⟩ := by
        rw [textL_take l i hi]
        apply ByteArray.ext
        apply Array.ext'
        simp [ByteArray.data_append]
      rw [e]
      exact ih (i + 1) (by omega) (by omega)
    · exact hend i (by omega)
theorem text_eq (l : List ByteArray) (h : (textL l).length ≤ 140737488355328) : word_Text.f l = some ⟨(textL l).toArray⟩ := by unfold word_Text.f; rw [if_pos h]
theorem pieces_text (c : Int) (l : List Int) : ∀ pre, ((Q.piecesA c pre l).map (· ++ [c])).flatten = pre ++ l ++ [c] := by
  induction l with
  | nil => intro pre; simp [Q.piecesA]
  | cons b r ih =>
    intro pre
    unfold Q.piecesA
    split
    · rename_i hb
      rw [List.map_cons, List.flatten_cons, ih, hb]
      simp
    · rw [ih]
      simp
theorem lines_text (s : ByteArray) (h : (linesB s).2 = 0) : (⟨(textL (linesB s).1).toArray⟩ : ByteArray) = s := by
  unfold linesB at h ⊢
  by_cases h0 : s.size = 0
  · rw [if_pos h0]
    apply ByteArray.ext
    exact (Array.eq_empty_of_size_eq_zero h0).symm
  · rw [if_neg h0] at h ⊢
    by_cases hb : bt s ((s.size : Int) - 1) = 10
    · rw [if_pos hb]
      have e : ∀ l : List (List Int), (∀ p ∈ l, Q.Bs p) → Q.nums (textL (l.map strOfNums)) = (l.map (· ++ [10])).flatten := by
        intro l
        induction l with
        | nil => intro _; rfl
        | cons p l ih =>
          intro hl
          have h1 := ih (fun q hq => hl q (by simp [hq]))
          have h2 : Q.nums (strOfNums p).data.toList = p := by rw [nums_bytes]; exact bytes_str p (hl p (by simp))
          unfold textL at h1 ⊢
          simp only [List.map_cons, List.flatten_cons]
          rw [← h1]
          simp only [Q.nums, List.map_append] at h2 ⊢
          rw [h2]
          rfl
      have hB := Q.piecesA_Bs 10 (bytesOf (s.extract 0 (s.size - 1))) (bytes_Bs _) [] (fun _ h => by cases h)
      have e2 : Q.nums (textL (cutB (s.extract 0 (s.size - 1)) 10)) = bytesOf s := by
        unfold cutB
        rw [e _ hB, pieces_text, List.nil_append]
        have h3 := last_drop s (Nat.pos_of_ne_zero h0)
        rw [hb] at h3
        have h4 : bytesOf (s.extract 0 (s.size - 1)) = (bytesOf s).take (s.size - 1) := by
          rw [extract_str, List.drop_zero]
          exact bytes_str _ (fun c hc => bytes_Bs s c (List.mem_of_mem_take hc))
        rw [h4, ← h3, List.take_append_drop]
      rw [← mk_str, e2, str_bytes]
    · rw [if_neg hb] at h
      cases h
theorem textL_bound : ∀ (l : List ByteArray) (m : Nat), (∀ s ∈ l, s.size ≤ m) → (textL l).length ≤ l.length * (m + 1)
  | [], _, _ => by simp [textL]
  | s :: l, m, h => by
    have h1 := textL_bound l m (fun t ht => h t (by simp [ht]))
    have h2 := h s (by simp)
    have h3 := data_length s
    unfold textL at h1 ⊢
    simp only [List.map_cons, List.flatten_cons, List.length_append, List.length_cons, List.length_nil, Nat.succ_mul]
    omega
theorem WordLines (a0 : ByteArray) (l1 : List ByteArray) (h0 : a0.size ≤ 140737488351232) (h1 : l1.length * 16 ≤ 140737488351232) : ∃ k, horariumlaw02_WordLines.f k a0 l1 = some true := by
  apply Ev.rounds
  unfold horariumlaw02_WordLines.f
  by_cases c0 : (a0.size : Int) > 3000
  · exact Ev.ifp c0 (Ev.step (fun k => horariumlaw02_WordLines.j0.eq_2 ..) (Ev.ifp rfl heads_ev))
  · obtain ⟨b, hb, hp⟩ := few_ev l1 h1
    refine Ev.ifn c0 (Ev.call hb (Ev.step (fun k => horariumlaw02_WordLines.j0.eq_2 ..) ?_))
    cases b with
    | false => exact Ev.ifp rfl heads_ev
    | true =>
      obtain ⟨hl, hm⟩ := hp rfl
      have hsz : a0.size ≤ 3000 := by omega
      refine Ev.ifn (by decide) (Ev.call (lines_ev a0 hsz) (Ev.call (reflines_ev a0 hsz) ?_))
      have hlen : (linesB a0).1.length ≤ 3001 := by
        unfold linesB
        split
        · simp
        · split
          · have h := cutB_length (a0.extract 0 (a0.size - 1)) 10
            rw [ByteArray.size_extract] at h
            show (cutB (a0.extract 0 (a0.size - 1)) 10).length ≤ 3001
            omega
          · simp
      refine Ev.call (same_ev _ _ (by omega)) (Ev.ifp (by simp) (Ev.ifp rfl ?_))
      have ht := textL_bound l1 300 hm
      have ht2 : l1.length * (300 + 1) ≤ 30 * (300 + 1) := Nat.mul_le_mul_right _ hl
      refine Ev.call (Ev.const (text_eq l1 (by omega))) ?_
      have hrt := reftext_loop l1 (by omega) (fun s h => by have := hm s h; omega) l1.length 0 (by omega) (by omega)
      unfold horariumref02_Text.f
      refine Ev.call hrt (Ev.step (fun k => horariumlaw02_WordLines.j1.eq_2 ..) (Ev.ifn (by simp) ?_))
      by_cases he : (linesB a0).2 = 0
      · refine Ev.ifp he ?_
        have hcut : ∀ p ∈ (linesB a0).1, p.size ≤ 3000 := by
          intro p hp
          unfold linesB at hp
          split at hp
          · cases hp
          · split at hp
            · have := cutB_size _ _ p hp
              rw [ByteArray.size_extract] at this
              omega
            · cases hp
        have hb2 := textL_bound (linesB a0).1 3000 hcut
        have hb3 : (linesB a0).1.length * (3000 + 1) ≤ 3001 * (3000 + 1) := Nat.mul_le_mul_right _ hlen
        refine Ev.call (Ev.const (text_eq _ (by omega))) (Ev.ifp ?_ heads_ev)
        rw [lines_text a0 he]
      · exact Ev.ifn he heads_ev
end Go.Proofs.YtnnpolnpgghkgaaDoor.Pure
