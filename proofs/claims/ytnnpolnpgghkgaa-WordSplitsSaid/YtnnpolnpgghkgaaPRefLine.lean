import Derived.Test.YtnnpolnpgghkgaaPRefCut
import Derived.Test.YtnnpolnpgghkgaaPRefUnq
import Derived.Test.YtnnpolnpgghkgaaPx7
import Derived.Test.YtnnpolnpgghkgaaPx7
/-! What the document's Split and Join answer: the same as the program's. -/
namespace Go.Proofs.Ytnnpolnpgghkgaa.P
open Go.RowKit Go.Proofs.YtnnpolnpgghkgaaW.PrintWords
set_option linter.unusedVariables false
set_option linter.unusedSimpArgs false
theorem unqB_empty : unqB ⟨#[]⟩ = (⟨#[]⟩, 3) := rfl
theorem refsplit_loop (ps : List (List Int)) (m : Nat) (hl : ps.length ≤ 4398046511105) (hm : ∀ p ∈ ps, p.length ≤ 4398046511104) : ∀ (d i : Nat) (acc : List ByteArray), i ≤ ps.length → ps.length - i ≤ d → acc.length = i →
    Ev (fun k => horariumref02_Split.l0 k (ps.map strOfNums) acc i) (splitAns acc (ps.drop i)) := by
  have hend : ∀ (i : Nat) (acc : List ByteArray), ps.length ≤ i → Ev (fun k => horariumref02_Split.l0 k (ps.map strOfNums) acc i) (splitAns acc (ps.drop i)) := by
    intro i acc h
    refine Ev.step (fun k => horariumref02_Split.l0.eq_2 ..) (Ev.ifn (by rw [List.length_map]; omega) (Ev.eq (Ev.now _) ?_))
    rw [List.drop_eq_nil_of_le h]
    rfl
  intro d
  induction d with
  | zero => intro i acc h1 hd ha; exact hend i acc (by omega)
  | succ d ih =>
    intro i acc h1 hd ha
    by_cases hi : i < ps.length
    · have hget : rdOf ByteArray.empty (ps.map strOfNums) (i : Int) = strOfNums ps[i] := by simp [rdOf, hi]
      have hz := hm ps[i] (List.getElem_mem hi)
      refine Ev.step (fun k => horariumref02_Split.l0.eq_2 ..) (Ev.ifp (by rw [List.length_map]; omega) (Ev.ifp (by omega) ?_))
      rw [hget, List.drop_eq_getElem_cons hi, splitAns]
      refine Ev.call (refunq_ev _ (by rw [strOfNums_size]; omega)) ?_
      by_cases hc : (unqB (strOfNums ps[i])).2 = 0
      · rw [if_pos hc]
        refine Ev.ifp hc (Ev.ifn ?_ (Ev.ifp (by omega) ?_))
        · intro h
          have h0 := (empty_bytes _).1 h
          have : strOfNums ps[i] = ⟨#[]⟩ := by
            apply ByteArray.ext
            exact Array.eq_empty_of_size_eq_zero h0
          rw [this, unqB_empty] at hc
          cases hc
        · rw [show wrap64 ((i : Int) + 1) = ((i + 1 : Nat) : Int) by rw [w64_in (by omega) (by omega)]; rfl]
          exact ih (i + 1) _ (by omega) (by omega) (by simp; omega)
      · rw [if_neg hc]
        refine Ev.ifn hc (Ev.eq (Ev.now _) ?_)
        rw [ha]
    · exact hend i acc (by omega)
theorem refsplit_ev (s : ByteArray) (hs : s.size ≤ 4398046511104) : Ev (fun k => horariumref02_Split.f k s) (splitB s) := by
  unfold horariumref02_Split.f splitB
  by_cases h : s.toList = []
  · rw [if_pos ((empty_bytes s).1 h)]
    exact Ev.ifp h (Ev.now _)
  · rw [if_neg (fun h0 => h ((empty_bytes s).2 h0))]
    refine Ev.ifn h (Ev.call (refcut_ev s 32 hs) ?_)
    have h1 := Q.piecesA_length 32 (bytesOf s) []
    rw [bytesOf_length] at h1
    refine refsplit_loop (Q.piecesA 32 [] (bytesOf s)) 0 (by omega) ?_ _ 0 [] (Nat.zero_le _) (Nat.le_refl _) rfl
    intro p hp
    have h2 := Q.piecesA_size 32 (bytesOf s) [] p hp
    rw [bytesOf_length] at h2
    simp at h2
    omega
theorem str_append (a b : List Int) : strOfNums a ++ strOfNums b = strOfNums (a ++ b) := by
  apply ByteArray.ext
  rw [ByteArray.data_append]
  apply Array.ext'
  simp [strOfNums]
theorem refjoin_loop (l : List ByteArray) (hl : l.length ≤ 1000) (hm : ∀ s ∈ l, s.size ≤ 1000000) : ∀ (d i : Nat), i ≤ l.length → l.length - i ≤ d →
    Ev (fun k => horariumref02_Join.l0 k l (strOfNums (Q.joinN 32 ((l.take i).map fun s => Q.quoteN (bytesOf s)))) i) (joinB l) := by
  have hsz : ∀ i, (strOfNums (Q.joinN 32 ((l.take i).map fun s => Q.quoteN (bytesOf s)))).size ≤ 1000 * 3000002 := by
    intro i
    rw [strOfNums_size]
    have h2 := Q.joinN_length 32 3000001 ((l.take i).map fun s => Q.quoteN (bytesOf s)) (by
      intro p hp
      obtain ⟨s, hs, rfl⟩ := List.mem_map.1 hp
      have h3 := quoB_size s
      have h4 := hm s (List.mem_of_mem_take hs)
      have h5 : (Q.quoteN (bytesOf s)).length = (quoB s).size := by unfold quoB; rw [strOfNums_size]
      omega)
    rw [List.length_map, List.length_take] at h2
    refine Nat.le_trans h2 (Nat.mul_le_mul_right _ ?_)
    omega
  have hend : ∀ i, l.length ≤ i → Ev (fun k => horariumref02_Join.l0 k l (strOfNums (Q.joinN 32 ((l.take i).map fun s => Q.quoteN (bytesOf s)))) i) (joinB l) := by
    intro i h
    refine Ev.step (fun k => horariumref02_Join.l0.eq_2 ..) (Ev.ifn (by omega) (Ev.eq (Ev.now _) ?_))
    rw [List.take_of_length_le h, ← bytes_join, str_bytes]
  intro d
  induction d with
  | zero => intro i h1 hd; exact hend i (by omega)
  | succ d ih =>
    intro i h1 hd
    by_cases hi : i < l.length
    · have hget : rdOf ByteArray.empty l (i : Int) = l[i] := by simp [rdOf, hi]
      have hz := hm l[i] (List.getElem_mem hi)
      have hq := quoB_size l[i]
      have hs := hsz i
      have w1 : wrap64 ((i : Int) + 1) = ((i + 1 : Nat) : Int) := by rw [w64_in (by omega) (by omega)]; rfl
      have htake : (l.take (i + 1)).map (fun s => Q.quoteN (bytesOf s)) = (l.take i).map (fun s => Q.quoteN (bytesOf s)) ++ [Q.quoteN (bytesOf l[i])] := by
        rw [List.take_succ_eq_append_getElem hi, List.map_append]
        rfl
      refine Ev.step (fun k => horariumref02_Join.l0.eq_2 ..) (Ev.ifp (by omega) ?_)
      rw [hget]
      by_cases h0 : (i : Int) > 0
      · refine Ev.ifp h0 (Ev.ifp (by omega) (Ev.ifp (by omega) ?_))
        refine Ev.call (Ev.const (refQuote_eq l[i] (by omega))) ?_
        have e32 : (⟨#[32]⟩ : ByteArray) = strOfNums [32] := rfl
        have e33 : (⟨#[32]⟩ : ByteArray).size = 1 := rfl
        refine Ev.ifp (by rw [ByteArray.size_append, e33]; omega) ?_
        have h3 := ih (i + 1) (by omega) (by omega)
        have hne : (l.take i).map (fun s => Q.quoteN (bytesOf s)) ≠ [] := by
          intro h
          have := congrArg List.length h
          rw [List.length_map, List.length_take] at this
          simp only [List.length_nil] at this
          omega
        rw [htake, Q.joinN_snoc 32 _ _ hne] at h3
        have e : strOfNums (Q.joinN 32 ((l.take i).map fun s => Q.quoteN (bytesOf s))) ++ (⟨#[32]⟩ : ByteArray) ++ quoB l[i] = strOfNums (Q.joinN 32 ((l.take i).map fun s => Q.quoteN (bytesOf s)) ++ 32 :: Q.quoteN (bytesOf l[i])) := by
          unfold quoB
          rw [e32, str_append, str_append, List.append_assoc]
          rfl
        rw [e, w1]
        exact h3
      · refine Ev.ifn h0 (Ev.ifp (by omega) ?_)
        refine Ev.call (Ev.const (refQuote_eq l[i] (by omega))) (Ev.ifp (by omega) ?_)
        have h3 := ih (i + 1) (by omega) (by omega)
        obtain rfl : i = 0 := by omega
        rw [htake] at h3
        rw [w1]
        exact h3
    · exact hend i (by omega)
theorem refjoin_ev (l : List ByteArray) (hl : l.length ≤ 1000) (hm : ∀ s ∈ l, s.size ≤ 1000000) : Ev (fun k => horariumref02_Join.f k l) (joinB l) := by
  unfold horariumref02_Join.f
  exact refjoin_loop l hl hm l.length 0 (Nat.zero_le _) (by omega)
end Go.Proofs.Ytnnpolnpgghkgaa.P
