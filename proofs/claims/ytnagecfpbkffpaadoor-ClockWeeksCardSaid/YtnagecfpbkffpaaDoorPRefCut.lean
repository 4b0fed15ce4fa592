import Derived.Test.YtnagecfpbkffpaaDoorPBase
import Derived.Test.YtnagecfpbkffpaaDoorPx11
namespace Go.Proofs.YtnagecfpbkffpaaDoor.P
open Go.RowKit Go.Proofs.YtnagecfpbkffpaaDoorW.PrintWords
set_option linter.unusedVariables false
set_option linter.unusedSimpArgs false
theorem take_succ_bytes (s : ByteArray) (i : Int) (h0 : 0 ≤ i) (h : i < s.size) : (bytesOf s).take (i + 1).toNat = (bytesOf s).take i.toNat ++ [bt s i] := by
  have hl : i.toNat < (bytesOf s).length := by rw [bytesOf_length]; omega
  rw [show (i + 1).toNat = i.toNat + 1 by omega, List.take_succ_eq_append_getElem hl, bt_get]
  simp [List.getD_eq_getElem?_getD, hl]
theorem cut_loop (s : ByteArray) (c : Int) (hs : s.size ≤ 4398046511104) : ∀ (d : Nat) (i from_ : Int) (acc : List ByteArray), 0 ≤ from_ → from_ ≤ i → i ≤ s.size → (s.size : Int) - i ≤ d → acc.length ≤ i →
    Ev (fun k => horariumref02_Cut.l0 k s c acc from_ i) (acc ++ (Q.piecesA c (((bytesOf s).take i.toNat).drop from_.toNat) ((bytesOf s).drop i.toNat)).map strOfNums) := by
  have hend : ∀ (i from_ : Int) (acc : List ByteArray), 0 ≤ from_ → from_ ≤ i → i = s.size → acc.length ≤ i →
      Ev (fun k => horariumref02_Cut.l0 k s c acc from_ i) (acc ++ (Q.piecesA c (((bytesOf s).take i.toNat).drop from_.toNat) ((bytesOf s).drop i.toNat)).map strOfNums) := by
    intro i from_ acc h0 h1 hi ha
    refine Ev.step (fun k => horariumref02_Cut.l0.eq_2 ..) ?_
    refine Ev.ifp (by omega) (Ev.ifp hi (Ev.ifp h0 (Ev.ifp h1 (Ev.ifp (by omega) ?_))))
    rw [w64_in (by omega) (by omega)]
    refine Ev.step (fun k => horariumref02_Cut.l0.eq_2 ..) (Ev.ifn (by omega) (Ev.eq (Ev.now _) ?_))
    rw [extract_str]
    have hdrop : (bytesOf s).drop i.toNat = [] := List.drop_eq_nil_of_le (by rw [bytesOf_length]; omega)
    rw [hdrop]
    rfl
  intro d
  induction d with
  | zero => intro i from_ acc h0 h1 h2 hd ha; exact hend i from_ acc h0 h1 (by omega) ha
  | succ d ih =>
    intro i from_ acc h0 h1 h2 hd ha
    by_cases hi : i < s.size
    · refine Ev.step (fun k => horariumref02_Cut.l0.eq_2 ..) ?_
      refine Ev.ifp h2 (Ev.ifn (by omega) (Ev.ifp (by omega) (Ev.ifp hi ?_)))
      rw [bytes_drop s i (by omega) hi]
      have w1 : wrap64 (i + 1) = i + 1 := w64_in (by omega) (by omega)
      by_cases hc : bt s i = c
      · refine Ev.ifp hc (Ev.ifp h0 (Ev.ifp h1 (Ev.ifp (by omega) ?_)))
        rw [w1, extract_str, Q.piecesA, if_pos hc, List.map_cons]
        have h3 := ih (i + 1) (i + 1) (acc ++ [strOfNums (((bytesOf s).take i.toNat).drop from_.toNat)]) (by omega) (by omega) (by omega) (by omega) (by simp; omega)
        have e : ((bytesOf s).take (i + 1).toNat).drop (i + 1).toNat = [] := List.drop_eq_nil_of_le (by rw [List.length_take]; omega)
        rw [e, List.append_assoc] at h3
        exact h3
      · refine Ev.ifn hc ?_
        rw [w1, Q.piecesA, if_neg hc]
        have h3 := ih (i + 1) from_ acc h0 (by omega) (by omega) (by omega) (by omega)
        rw [take_succ_bytes s i (by omega) hi, List.drop_append_of_le_length (by rw [List.length_take, bytesOf_length]; omega)] at h3
        exact h3
    · exact hend i from_ acc h0 h1 (by omega) ha
def cutB (s : ByteArray) (c : Int) : List ByteArray := (Q.piecesA c [] (bytesOf s)).map strOfNums
theorem refcut_ev (s : ByteArray) (c : Int) (hs : s.size ≤ 4398046511104) : Ev (fun k => horariumref02_Cut.f k s c) (cutB s c) := by
  unfold horariumref02_Cut.f cutB
  exact cut_loop s c hs s.size 0 0 [] (by omega) (by omega) (by omega) (by omega) (by simp)
end Go.Proofs.YtnagecfpbkffpaaDoor.P
