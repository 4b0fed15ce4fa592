import Derived.Test.YtnagecfpbkffpaaDoorPSplitP
import Derived.Test.YtnagecfpbkffpaaDoorPx7
namespace Go.Proofs.YtnagecfpbkffpaaDoor.P
open Go.RowKit Go.Proofs.YtnagecfpbkffpaaDoorW.PrintWords
set_option linter.unusedVariables false
set_option linter.unusedSimpArgs false
theorem cut_one (s : ByteArray) (c : UInt8) (hs : s.size ≤ 140737488351232) : (Q.piecesA (c.toNat : Int) [] (bytesOf s) = [bytesOf s] ∧ strings_Cut.f s ⟨#[c]⟩ = some (s, ⟨#[]⟩, false)) ∨
    ∃ a b : ByteArray, Q.piecesA (c.toNat : Int) [] (bytesOf s) = bytesOf a :: Q.piecesA (c.toNat : Int) [] (bytesOf b) ∧ b.size < s.size ∧ a.size ≤ s.size ∧ strings_Cut.f s ⟨#[c]⟩ = some (a, b, true) := by
  have hI : stringslite_Index.f s ⟨#[c]⟩ = some (Lib.indexByte s.data.toList c) := by
    have h := index_one s c
    unfold strings_Index.f at h
    obtain ⟨t, h1, h2⟩ := Option.bind_eq_some_iff.1 h
    rw [h1, h2]
  rcases Q.pieces_index c s.data.toList [] with ⟨h1, h2⟩ | ⟨j, h1, h2, h3⟩
  · refine .inl ⟨by rw [← nums_bytes, h2]; rfl, ?_⟩
    unfold strings_Cut.f stringslite_Cut.f
    rw [hI, h1]
    rfl
  · have hl : s.data.toList.length = s.size := data_length s
    refine .inr ⟨s.extract 0 j, s.extract (j + 1) s.size, ?_, ?_, ?_, ?_⟩
    · rw [← nums_bytes s, h3]
      have e1 : bytesOf (s.extract 0 j) = Q.nums (s.data.toList.take j) := by
        rw [← nums_bytes, ByteArray.data_extract, Array.toList_extract]
        simp
      have e2 : bytesOf (s.extract (j + 1) s.size) = Q.nums (s.data.toList.drop (j + 1)) := by
        rw [← nums_bytes, ByteArray.data_extract, Array.toList_extract, List.extract_eq_take_drop, List.take_of_length_le]
        rw [List.length_drop]
        omega
      rw [e1, e2]
      rfl
    · rw [ByteArray.size_extract]; omega
    · rw [ByteArray.size_extract]; omega
    · unfold strings_Cut.f stringslite_Cut.f
      rw [hI, h1]
      simp only [Option.bind_some]
      rw [wrap_one j c (by omega)]
      rw [if_pos (by omega), if_pos (by omega), if_pos (by omega), if_pos (by omega), if_pos (by omega)]
      simp only [Option.bind_some, Int.toNat_natCast]
end Go.Proofs.YtnagecfpbkffpaaDoor.P
