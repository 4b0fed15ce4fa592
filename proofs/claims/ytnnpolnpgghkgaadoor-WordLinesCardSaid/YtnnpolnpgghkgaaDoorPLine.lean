import Derived.Test.YtnnpolnpgghkgaaDoorPWord
import Derived.Test.YtnnpolnpgghkgaaDoorQLine
import Derived.Test.YtnnpolnpgghkgaaDoorPx3
import Derived.Test.YtnnpolnpgghkgaaDoorPx4
import Derived.Test.YtnnpolnpgghkgaaDoorPx1
/-! What the program's Split and Join answer. -/
namespace Go.Proofs.YtnnpolnpgghkgaaDoor.P
open Go.RowKit Go.Proofs.YtnnpolnpgghkgaaDoorW.PrintWords
set_option linter.unusedVariables false
set_option linter.unusedSimpArgs false
theorem nums_bytes (s : ByteArray) : Q.nums s.data.toList = bytesOf s := rfl
theorem mk_str (l : List UInt8) : strOfNums (Q.nums l) = ⟨l.toArray⟩ := by
  unfold strOfNums Q.nums
  rw [List.map_map]
  have : ((fun n : Int => UInt8.ofNat n.toNat) ∘ fun b : UInt8 => (b.toNat : Int)) = id := by
    funext b
    simp
  rw [this, List.map_id]
theorem extract_str (s : ByteArray) (i j : Nat) : s.extract i j = strOfNums (((bytesOf s).take j).drop i) := by
  have : ((bytesOf s).take j).drop i = Q.nums ((s.data.toList.take j).drop i) := by
    unfold bytesOf Q.nums
    rw [List.map_drop, List.map_take]
  rw [this, mk_str]
  apply ByteArray.ext
  rw [ByteArray.data_extract]
  apply Array.ext'
  rw [Array.toList_extract, List.extract_eq_take_drop, List.drop_take]
/-- a line's pieces at each blank, behind what is there -/
def splitAns (acc : List ByteArray) : List (List Int) → List ByteArray × Int × Int
  | [] => (acc, 0, 0)
  | p :: ps => if (unqB (strOfNums p)).2 = 0 then splitAns (acc ++ [(unqB (strOfNums p)).1]) ps else ([], (acc.length : Int), 3)
theorem cut_eq (s : ByteArray) (hs : s.size ≤ 140737488351232) : (Lib.indexByte s.data.toList 32 = -1 ∧ Q.piecesA 32 [] (bytesOf s) = [bytesOf s] ∧ strings_Cut.f s ⟨#[32]⟩ = some (s, ⟨#[]⟩, false)) ∨
    ∃ a b : ByteArray, Q.piecesA 32 [] (bytesOf s) = bytesOf a :: Q.piecesA 32 [] (bytesOf b) ∧ b.size < s.size ∧ a.size ≤ s.size ∧ strings_Cut.f s ⟨#[32]⟩ = some (a, b, true) := by
  have hI : stringslite_Index.f s ⟨#[32]⟩ = some (Lib.indexByte s.data.toList 32) := rfl
  have hb : ((32 : UInt8).toNat : Int) = 32 := rfl
  rcases Q.pieces_index 32 s.data.toList [] with ⟨h1, h2⟩ | ⟨j, h1, h2, h3⟩
  · refine .inl ⟨h1, by rw [← hb, ← nums_bytes, h2]; rfl, ?_⟩
    unfold strings_Cut.f stringslite_Cut.f
    rw [hI, h1]
    rfl
  · have hl : s.data.toList.length = s.size := data_length s
    refine .inr ⟨s.extract 0 j, s.extract (j + 1) s.size, ?_, ?_, ?_, ?_⟩
    · rw [← nums_bytes s, ← hb, h3]
      have e1 : bytesOf (s.extract 0 j) = Q.nums (s.data.toList.take j) := by
        rw [← nums_bytes, ByteArray.data_extract, Array.toList_extract]
        simp
      have e2 : bytesOf (s.extract (j + 1) s.size) = Q.nums (s.data.toList.drop (j + 1)) := by
        rw [← nums_bytes, ByteArray.data_extract, Array.toList_extract, List.extract_eq_take_drop, List.take_of_length_le]
        rw [List.length_drop]
        omega
      rw [e1, e2]
      rfl
    · rw [ByteArray.size_extract]; omega
    · rw [ByteArray.size_extract]; omega
    · unfold strings_Cut.f stringslite_Cut.f
      rw [hI, h1]
      simp only [Option.bind_some]
      have w1 : wrap64 ((j : Int) + (ByteArray.size ⟨#[32]⟩ : Int)) = j + 1 := by
        show wrap64 ((j : Int) + 1) = j + 1
        exact w64_in (by omega) (by omega)
      rw [w1]
      rw [if_pos (by omega), if_pos (by omega), if_pos (by omega), if_pos (by omega), if_pos (by omega)]
      simp only [Option.bind_some, Int.toNat_natCast]
      rw [show ((j : Int) + 1).toNat = j + 1 by omega]
theorem unqB_code (w : ByteArray) : (unqB w).2 = 0 ∨ (unqB w).2 = 3 := by
  rcases unqB_or w with ⟨t, h, _⟩ | h
  · rw [h]; exact .inl rfl
  · rw [h]; exact .inr rfl
theorem split_loop : ∀ (n : Nat) (s : ByteArray) (acc : List ByteArray), s.size ≤ n → s.size ≤ 4398046511104 → acc.length + s.size ≤ 4398046511104 →
    Ev (fun k => word_Split.l0 k acc s) (splitAns acc (Q.piecesA 32 [] (bytesOf s))) := by
  intro n
  induction n with
  | zero =>
    intro s acc hn hs ha
    refine Ev.step (fun k => word_Split.l0.eq_2 ..) ?_
    rcases cut_eq s (by omega) with ⟨_, h2, h3⟩ | ⟨a, b, _, h2, _⟩
    · rw [h2]
      refine Ev.call (Ev.const h3) (Ev.call (unquote_ev s (by omega)) ?_)
      simp only [splitAns, str_bytes]
      by_cases hc : (unqB s).2 = 0
      · rw [if_pos hc]
        refine Ev.ifp hc (Ev.ifp (by omega) (Ev.call (Ev.now _) ?_))
        exact Ev.ifn (by simp) (Ev.now _)
      · rw [if_neg hc]
        refine Ev.ifn hc (Ev.eq (Ev.now _) ?_)
        rw [(unqB_code s).resolve_left hc]
    · omega
  | succ n ih =>
    intro s acc hn hs ha
    refine Ev.step (fun k => word_Split.l0.eq_2 ..) ?_
    rcases cut_eq s (by omega) with ⟨_, h2, h3⟩ | ⟨a, b, h1, h2, hsz, h3⟩
    · rw [h2]
      refine Ev.call (Ev.const h3) (Ev.call (unquote_ev s (by omega)) ?_)
      simp only [splitAns, str_bytes]
      by_cases hc : (unqB s).2 = 0
      · rw [if_pos hc]
        refine Ev.ifp hc (Ev.ifp (by omega) (Ev.call (Ev.now _) ?_))
        exact Ev.ifn (by simp) (Ev.now _)
      · rw [if_neg hc]
        refine Ev.ifn hc (Ev.eq (Ev.now _) ?_)
        rw [(unqB_code s).resolve_left hc]
    · rw [h1]
      refine Ev.call (Ev.const h3) (Ev.call (unquote_ev a (by omega)) ?_)
      simp only [splitAns, str_bytes]
      by_cases hc : (unqB a).2 = 0
      · rw [if_pos hc]
        refine Ev.ifp hc (Ev.ifp (by omega) (Ev.call (Ev.now _) ?_))
        refine Ev.ifp (by trivial) ?_
        exact ih b _ (by omega) (by omega) (by simp; omega)
      · rw [if_neg hc]
        refine Ev.ifn hc (Ev.eq (Ev.now _) ?_)
        rw [(unqB_code a).resolve_left hc]
/-- Split's answer -/
def splitB (s : ByteArray) : List ByteArray × Int × Int := if s.size = 0 then ([], 0, 0) else splitAns [] (Q.piecesA 32 [] (bytesOf s))
theorem split_ev (s : ByteArray) (hs : s.size ≤ 4398046511104) : Ev (fun k => word_Split.f k s) (splitB s) := by
  unfold word_Split.f splitB
  by_cases h : s.toList = []
  · rw [if_pos ((empty_bytes s).1 h)]
    exact Ev.ifp h (Ev.now _)
  · rw [if_neg (fun h0 => h ((empty_bytes s).2 h0))]
    exact Ev.ifn h (split_loop s.size s [] (Nat.le_refl _) hs (by simp; omega))
/-- Join's answer -/
def joinB (l : List ByteArray) : ByteArray := ⟨(Lib.join ((l.map quoB).map (·.data.toList)) [32]).toArray⟩
theorem bytes_join (l : List ByteArray) : bytesOf (joinB l) = Q.joinN 32 (l.map fun s => Q.quoteN (bytesOf s)) := by
  rw [← nums_bytes]
  unfold joinB
  simp only []
  rw [Q.join_nums, List.map_map, List.map_map]
  congr 1
  apply List.map_congr_left
  intro s _
  show Q.nums (quoB s).data.toList = _
  rw [nums_bytes]
  unfold quoB
  rw [bytes_str _ (Q.quoteN_bytes _ (bytes_Bs s))]
theorem joinB_size (l : List ByteArray) (m : Nat) (h : ∀ s ∈ l, s.size ≤ m) : (joinB l).size ≤ l.length * (3 * m + 2) := by
  rw [← bytesOf_length, bytes_join]
  have h2 := Q.joinN_length 32 (3 * m + 1) (l.map fun s => Q.quoteN (bytesOf s)) (by
    intro p hp
    obtain ⟨s, hs, rfl⟩ := List.mem_map.1 hp
    have h3 := quoB_size s
    have h4 := h s hs
    have h5 : (Q.quoteN (bytesOf s)).length = (quoB s).size := by unfold quoB; rw [strOfNums_size]
    omega)
  rw [List.length_map] at h2
  exact h2
theorem join_loop (l : List ByteArray) (hl : l.length ≤ 1000) (hm : ∀ s ∈ l, s.size ≤ 1000000) : ∀ (d : Nat) (i : Nat), i ≤ l.length → l.length - i ≤ d →
    Ev (fun k => word_Join.l0 k ((l.take i).map quoB ++ List.replicate (l.length - i) ⟨#[]⟩) l l.length i) (joinB l) := by
  have hend : ∀ i, l.length ≤ i → i ≤ l.length → Ev (fun k => word_Join.l0 k ((l.take i).map quoB ++ List.replicate (l.length - i) ⟨#[]⟩) l l.length i) (joinB l) := by
    intro i h1 h2
    refine Ev.step (fun k => word_Join.l0.eq_2 ..) ?_
    refine Ev.ifn (by omega) ?_
    rw [show l.length - i = 0 by omega, List.replicate_zero, List.append_nil, List.take_of_length_le h1]
    have hsz := joinB_size l 1000000 hm
    have hsz2 : l.length * (3 * 1000000 + 2) ≤ 1000 * (3 * 1000000 + 2) := Nat.mul_le_mul_right _ hl
    have hJ : strings_Join.f (l.map quoB) ⟨#[32]⟩ = some (joinB l) := by
      unfold strings_Join.f
      rw [if_pos]
      · rfl
      · refine ⟨by rw [List.length_map]; omega, ?_⟩
        have h3 : (joinB l).size = (Lib.join ((l.map quoB).map (·.data.toList)) [32]).length := by
          rw [← data_length]
          rfl
        have h4 : (⟨#[32]⟩ : ByteArray).data.toList = [32] := rfl
        rw [h4, ← h3]
        omega
    exact Ev.call (Ev.const hJ) (Ev.now _)
  intro d
  induction d with
  | zero => intro i h1 hd; exact hend i (by omega) h1
  | succ d ih =>
    intro i h1 hd
    by_cases hi : i < l.length
    · refine Ev.step (fun k => word_Join.l0.eq_2 ..) ?_
      have hlen : ((l.take i).map quoB ++ List.replicate (l.length - i) (⟨#[]⟩ : ByteArray)).length = l.length := by simp; omega
      refine Ev.ifp (by omega) (Ev.ifp (by omega) (Ev.ifp (by omega) ?_))
      have hget : rdOf ByteArray.empty l (i : Int) = l[i] := by simp [rdOf, hi]
      rw [hget]
      have hs := hm l[i] (List.getElem_mem hi)
      refine Ev.call (quote_ev l[i] (by omega)) ?_
      refine Ev.ifp (by rw [hlen]; omega) ?_
      have e : ((l.take i).map quoB ++ List.replicate (l.length - i) (⟨#[]⟩ : ByteArray)).set (i : Int).toNat (quoB l[i]) = (l.take (i + 1)).map quoB ++ List.replicate (l.length - (i + 1)) ⟨#[]⟩ := by
        rw [Int.toNat_natCast, List.set_append_right _ _ (by simp; omega), List.take_succ_eq_append_getElem hi]
        have e2 : i - ((l.take i).map quoB).length = 0 := by simp; omega
        rw [e2, show l.length - i = (l.length - (i + 1)) + 1 by omega, List.replicate_succ, List.set_cons_zero]
        simp only [List.map_append, List.map_cons, List.map_nil, List.append_assoc, List.singleton_append]
      rw [e, show wrap64 ((i : Int) + 1) = ((i + 1 : Nat) : Int) by rw [w64_in (by omega) (by omega)]; rfl]
      exact ih (i + 1) (by omega) (by omega)
    · exact hend i (by omega) h1
theorem join_ev (l : List ByteArray) (hl : l.length ≤ 1000) (hm : ∀ s ∈ l, s.size ≤ 1000000) : Ev (fun k => word_Join.f k l) (joinB l) := by
  unfold word_Join.f
  refine Ev.ifp (by omega) (Ev.ifp (by omega) ?_)
  exact join_loop l hl hm l.length 0 (Nat.zero_le _) (by omega)
theorem split_join (l : List ByteArray) : splitB (joinB l) = (l, 0, 0) := by
  unfold splitB
  cases l with
  | nil => rfl
  | cons s r =>
    have hb : (joinB (s :: r)).size ≠ 0 := by
      rw [← bytesOf_length, bytes_join]
      intro h0
      have h1 := List.eq_nil_of_length_eq_zero h0
      cases r with
      | nil => exact Q.quoteN_pos _ h1
      | cons t r => simp [Q.joinN] at h1
    rw [if_neg hb, bytes_join, Q.pieces_join 32 _ (by simp) (by
      intro p hp
      obtain ⟨t, _, rfl⟩ := List.mem_map.1 hp
      exact Q.quoteN_no_blank _ (bytes_Bs t))]
    have h : ∀ (l acc : List ByteArray), splitAns acc (l.map fun s => Q.quoteN (bytesOf s)) = (acc ++ l, 0, 0) := by
      intro l
      induction l with
      | nil => intro acc; simp [splitAns]
      | cons t l ih =>
        intro acc
        have hq : strOfNums (Q.quoteN (bytesOf t)) = quoB t := rfl
        rw [List.map_cons, splitAns, hq, unq_quo, if_pos rfl, ih]
        simp
    rw [h]
    rfl
theorem same_loop (a b : List ByteArray) (hl : a.length = b.length) (hm : a.length ≤ 9000000000000) : ∀ (d i : Nat), i ≤ a.length → a.length - i ≤ d →
    Ev (fun k => horariumref02_Same.l0 k a b i) (decide (a.drop i = b.drop i)) := by
  have hend : ∀ i, a.length ≤ i → Ev (fun k => horariumref02_Same.l0 k a b i) (decide (a.drop i = b.drop i)) := by
    intro i h1
    refine Ev.step (fun k => horariumref02_Same.l0.eq_2 ..) ?_
    refine Ev.ifn (by omega) (Ev.eq (Ev.now _) ?_)
    rw [List.drop_eq_nil_of_le h1, List.drop_eq_nil_of_le (by omega)]
    rfl
  intro d
  induction d with
  | zero => intro i h1 hd; exact hend i (by omega)
  | succ d ih =>
    intro i h1 hd
    by_cases hi : i < a.length
    · refine Ev.step (fun k => horariumref02_Same.l0.eq_2 ..) ?_
      refine Ev.ifp (by omega) (Ev.ifp (by omega) (Ev.ifp (by omega) ?_))
      have ha : rdOf ByteArray.empty a (i : Int) = a[i] := by simp [rdOf, hi]
      have hib : i < b.length := by omega
      have hb : rdOf ByteArray.empty b (i : Int) = b[i] := by simp [rdOf, hib]
      rw [ha, hb, List.drop_eq_getElem_cons hi, List.drop_eq_getElem_cons hib]
      by_cases he : a[i] = b[i]
      · refine Ev.ifp ((toList_inj _ _).2 he) ?_
        rw [show wrap64 ((i : Int) + 1) = ((i + 1 : Nat) : Int) by rw [w64_in (by omega) (by omega)]; rfl]
        refine Ev.eq (ih (i + 1) (by omega) (by omega)) ?_
        rw [he]
        simp only [List.cons.injEq, true_and]
      · refine Ev.ifn (fun h => he ((toList_inj _ _).1 h)) (Ev.eq (Ev.now _) ?_)
        symm
        rw [decide_eq_false_iff_not]
        intro h
        injection h with h1
        exact he h1
    · exact hend i (by omega)
theorem same_ev (a b : List ByteArray) (hm : a.length ≤ 9000000000000) : Ev (fun k => horariumref02_Same.f k a b) (decide (a = b)) := by
  unfold horariumref02_Same.f
  by_cases hl : (a.length : Int) = b.length
  · refine Ev.ifp hl (Ev.eq (same_loop a b (by omega) hm a.length 0 (Nat.zero_le _) (by omega)) ?_)
    simp
  · refine Ev.ifn hl (Ev.eq (Ev.now _) ?_)
    symm
    rw [decide_eq_false_iff_not]
    rintro rfl
    exact hl rfl
end Go.Proofs.YtnnpolnpgghkgaaDoor.P
