import Derived.Test.YtnagecfpbkffpaaDoorPRefCut
import Derived.Test.YtnagecfpbkffpaaDoorPx7
namespace Go.Proofs.YtnagecfpbkffpaaDoor.Q
theorem pieces_count (c : UInt8) (l : List UInt8) : ∀ pre, (piecesA (c.toNat : Int) pre (nums l)).length = l.count c + 1 := by
  induction l with
  | nil => intro pre; simp [nums, piecesA]
  | cons b l ih =>
    intro pre
    show (piecesA _ pre ((b.toNat : Int) :: nums l)).length = _
    by_cases hb : b = c
    · subst hb
      rw [piecesA, if_pos rfl, List.length_cons, ih, List.count_cons_self]
    · have hbc : ((b.toNat : Nat) : Int) ≠ (c.toNat : Int) := by
        intro h
        exact hb (UInt8.toNat_inj.1 (by omega))
      rw [piecesA, if_neg hbc, ih, List.count_cons_of_ne hb]
end Go.Proofs.YtnagecfpbkffpaaDoor.Q
namespace Go.Proofs.YtnagecfpbkffpaaDoor.P
open Go.RowKit Go.Proofs.YtnagecfpbkffpaaDoorW.PrintWords
set_option linter.unusedVariables false
set_option linter.unusedSimpArgs false
theorem index_one (s : ByteArray) (c : UInt8) : strings_Index.f s ⟨#[c]⟩ = some (Lib.indexByte s.data.toList c) := by
  unfold strings_Index.f stringslite_Index.f
  have h : (bt ⟨#[c]⟩ 0).toNat.toUInt8 = c := by
    unfold bt
    rw [dif_pos (show Int.toNat 0 < ByteArray.size ⟨#[c]⟩ from Nat.zero_lt_one)]
    simp [ByteArray.getElem_eq_getElem_data]
  rw [if_pos (show (⟨#[c]⟩ : ByteArray).size = 1 from rfl), h]
  rfl
theorem count_one (s : ByteArray) (c : UInt8) : strings_Count.f s ⟨#[c]⟩ = some ((s.data.toList.count c : Nat) : Int) := by
  unfold strings_Count.f
  have h : (bt ⟨#[c]⟩ 0).toNat.toUInt8 = c := by
    unfold bt
    rw [dif_pos (show Int.toNat 0 < ByteArray.size ⟨#[c]⟩ from Nat.zero_lt_one)]
    simp [ByteArray.getElem_eq_getElem_data]
  rw [if_pos (show (⟨#[c]⟩ : ByteArray).size = 1 from rfl), h]
  rfl
theorem cut_first (s : ByteArray) (c : UInt8) : (Q.piecesA (c.toNat : Int) [] (bytesOf s) = [bytesOf s]) ∨
    ∃ j : Nat, Lib.indexByte s.data.toList c = j ∧ j < s.size ∧ Q.piecesA (c.toNat : Int) [] (bytesOf s) = bytesOf (s.extract 0 j) :: Q.piecesA (c.toNat : Int) [] (bytesOf (s.extract (j + 1) s.size)) := by
  rcases Q.pieces_index c s.data.toList [] with ⟨_, h2⟩ | ⟨j, h1, h2, h3⟩
  · exact .inl (by rw [← nums_bytes, h2]; rfl)
  · have hl : s.data.toList.length = s.size := data_length s
    refine .inr ⟨j, h1, by omega, ?_⟩
    rw [← nums_bytes s, h3]
    have e1 : bytesOf (s.extract 0 j) = Q.nums (s.data.toList.take j) := by
      rw [← nums_bytes, ByteArray.data_extract, Array.toList_extract]
      simp
    have e2 : bytesOf (s.extract (j + 1) s.size) = Q.nums (s.data.toList.drop (j + 1)) := by
      rw [← nums_bytes, ByteArray.data_extract, Array.toList_extract, List.extract_eq_take_drop, List.take_of_length_le]
      rw [List.length_drop]
      omega
    rw [e1, e2]
    rfl
theorem wrap_succ (n : Nat) (h : (n : Int) + 1 ≤ 9223372036854775807) : wrap64 ((n : Int) + 1) = ((n + 1 : Nat) : Int) := by
  rw [w64_in (by omega) h]
  rfl
theorem wrap_zero (n : Nat) (h : (n : Int) + 1 ≤ 9223372036854775807) : wrap64 ((n : Int) + 0) = (n : Int) := by
  rw [Int.add_zero]
  exact w64_in (by omega) (by omega)
theorem wrap_one (n : Nat) (c : UInt8) (h : (n : Int) + 1 ≤ 9223372036854775807) : wrap64 ((n : Int) + ((⟨#[c]⟩ : ByteArray).size : Int)) = ((n + 1 : Nat) : Int) := wrap_succ n h
theorem gen_loop (c : UInt8) (m : Nat) (hm : m ≤ 4398046511104) : ∀ (d : Nat) (r : ByteArray) (done : List ByteArray), done.length + d = m → done.length + (Q.piecesA (c.toNat : Int) [] (bytesOf r)).length = m + 1 → r.size ≤ 4398046511104 →
    Ev (fun k => strings_genSplit.l0 k r ⟨#[c]⟩ 0 m (done ++ List.replicate (m + 1 - done.length) ⟨#[]⟩) done.length) (done ++ cutB r c.toNat) := by
  have hset : ∀ (done : List ByteArray) (n : Nat) (x : ByteArray), (done ++ List.replicate (n + 1) (⟨#[]⟩ : ByteArray)).set done.length x = done ++ x :: List.replicate n ⟨#[]⟩ := by
    intro done n x
    rw [List.set_append_right _ _ (Nat.le_refl _), Nat.sub_self, List.replicate_succ, List.set_cons_zero]
  have hlen : ∀ (done : List ByteArray), done.length ≤ m → (done ++ List.replicate (m + 1 - done.length) (⟨#[]⟩ : ByteArray)).length = m + 1 := by
    intro done h
    rw [List.length_append, List.length_replicate]
    omega
  intro d
  induction d with
  | zero =>
    intro r done hd hp hr
    have hl := hlen done (by omega)
    refine Ev.step (fun k => strings_genSplit.l0.eq_2 ..) (Ev.ifn (by omega) ?_)
    have w1 : wrap64 ((done.length : Int) + 1) = ((done.length + 1 : Nat) : Int) := by rw [w64_in (by omega) (by omega)]; rfl
    rw [hl, w1]
    refine Ev.ifp (by omega) (Ev.ifp (by omega) (Ev.ifp (by omega) (Ev.ifp (by omega) (Ev.eq (Ev.now _) ?_))))
    rcases cut_first r c with h | ⟨j, _, _, h⟩
    · unfold cutB
      rw [h]
      simp only [Int.toNat_natCast, List.map_cons, List.map_nil, str_bytes]
      rw [show m + 1 - done.length = 0 + 1 by omega, hset, List.replicate_zero]
      exact List.take_of_length_le (by simp)
    · exfalso
      rw [h] at hp
      have h2 := Q.pieces_count c (r.extract (j + 1) r.size).data.toList []
      rw [nums_bytes] at h2
      simp only [List.length_cons, h2] at hp
      omega
  | succ d ih =>
    intro r done hd hp hr
    have hl := hlen done (by omega)
    refine Ev.step (fun k => strings_genSplit.l0.eq_2 ..) (Ev.ifp (by omega) (Ev.call (Ev.const (index_one r c)) ?_))
    rcases cut_first r c with h | ⟨j, hj, hjs, h⟩
    · exfalso
      rw [h] at hp
      simp at hp
      omega
    · rw [hj, hl]
      have g1 : ¬ ((j : Int) < 0) := by omega
      have g2 : (0 : Int) ≤ j := by omega
      have g3 : (j : Int) ≤ (r.size : Int) := by omega
      have g4 : (0 : Int) ≤ (done.length : Int) := by omega
      have g5 : (done.length : Int) < ((m + 1 : Nat) : Int) := by omega
      have g6 : (0 : Int) ≤ ((j + 1 : Nat) : Int) := by omega
      have g7 : ((j + 1 : Nat) : Int) ≤ (r.size : Int) := by omega
      have g8 : (j : Int) + 1 ≤ 9223372036854775807 := by omega
      have g9 : (done.length : Int) + 1 ≤ 9223372036854775807 := by omega
      have g10 : m + 1 - done.length = (m - done.length) + 1 := by omega
      have g11 : (done ++ [r.extract 0 j]).length + d = m := by simp; omega
      have g12 : (done ++ [r.extract 0 j]).length + (Q.piecesA (c.toNat : Int) [] (bytesOf (r.extract (j + 1) r.size))).length = m + 1 := by
        rw [h] at hp
        simp only [List.length_cons, List.length_append, List.length_nil] at hp ⊢
        omega
      have g13 : (r.extract (j + 1) r.size).size ≤ 4398046511104 := by rw [ByteArray.size_extract]; omega
      have g14 : m + 1 - (done.length + 1) = m - done.length := by omega
      rw [wrap_succ done.length g9, wrap_zero j g8, wrap_one j c g8]
      refine Ev.ifn g1 ?_
      refine Ev.ifp g2 ?_
      refine Ev.ifp g3 ?_
      refine Ev.ifp g4 ?_
      refine Ev.ifp g5 ?_
      refine Ev.ifp g6 ?_
      refine Ev.ifp g7 ?_
      simp only [Int.toNat_natCast]
      rw [g10, hset]
      have h3 := ih (r.extract (j + 1) r.size) (done ++ [r.extract 0 j]) g11 g12 g13
      have e1 : (done ++ [r.extract 0 j]).length = done.length + 1 := by simp
      rw [e1, g14, List.append_assoc, List.append_assoc] at h3
      have e2 : cutB r c.toNat = r.extract 0 j :: cutB (r.extract (j + 1) r.size) c.toNat := by
        unfold cutB
        rw [h, List.map_cons, str_bytes]
      rw [e2]
      exact h3
theorem strsplit_ev (s : ByteArray) (c : UInt8) (hs : s.size ≤ 4398046511103) : Ev (fun k => strings_Split.f k s ⟨#[c]⟩) (cutB s c.toNat) := by
  unfold strings_Split.f strings_genSplit.f
  have hcl : s.data.toList.count c ≤ s.size := by
    have := List.count_le_length (a := c) (l := s.data.toList)
    rw [data_length] at this
    exact this
  refine Ev.call ?_ (Ev.now _)
  refine Ev.ifn (by omega) ?_
  refine Ev.ifn (by rw [empty_bytes]; exact Nat.one_ne_zero) ?_
  refine Ev.ifp (by omega) ?_
  refine Ev.call (Ev.const (count_one s c)) ?_
  · refine Ev.step (fun k => strings_genSplit.j0.eq_2 ..) ?_
    generalize hn : s.data.toList.count c = n at hcl
    have w0 : wrap64 ((n : Int) + 1) = ((n + 1 : Nat) : Int) := by rw [w64_in (by omega) (by omega)]; rfl
    have w1 : wrap64 ((s.size : Int) + 1) = (s.size : Int) + 1 := w64_in (by omega) (by omega)
    have hmn : mn (wrap64 ((n : Int) + 1)) (wrap64 ((s.size : Int) + 1)) = ((n + 1 : Nat) : Int) := by
      rw [w0, w1]
      unfold mn
      by_cases hlt : ((s.size : Int) + 1) < ((n + 1 : Nat) : Int)
      · rw [if_pos hlt]
        omega
      · rw [if_neg hlt]
    have w2 : wrap64 (((n + 1 : Nat) : Int) - 1) = (n : Int) := by rw [w64_in (by omega) (by omega)]; omega
    rw [hmn, w2]
    refine Ev.ifp (by omega) (Ev.ifp (by omega) ?_)
    have h2 := Q.pieces_count c s.data.toList []
    rw [nums_bytes, hn] at h2
    have h3 := gen_loop c n (by omega) n s [] (by simp) (by simp only [List.length_nil]; omega) (by omega)
    simp only [List.length_nil, List.nil_append] at h3
    exact h3
end Go.Proofs.YtnagecfpbkffpaaDoor.P
