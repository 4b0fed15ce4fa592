import Derived.Test.YtnagecfpbkffpaaDoorQWord
namespace Go.Proofs.YtnagecfpbkffpaaDoor.Q
def Bs (l : List Int) : Prop := ∀ c ∈ l, 0 ≤ c ∧ c ≤ 255
theorem Bs.cons {c : Int} {l : List Int} (h : Bs (c :: l)) : (0 ≤ c ∧ c ≤ 255) ∧ Bs l := ⟨h c (by simp), fun d hd => h d (by simp [hd])⟩
theorem Bs.mk {c : Int} {l : List Int} (h : 0 ≤ c ∧ c ≤ 255) (hl : Bs l) : Bs (c :: l) := by
  intro d hd
  rcases List.mem_cons.1 hd with rfl | hd
  · exact h
  · exact hl d hd
theorem Bs.append {a b : List Int} (ha : Bs a) (hb : Bs b) : Bs (a ++ b) := by
  intro c hc
  rcases List.mem_append.1 hc with h | h
  · exact ha c h
  · exact hb c h
end Go.Proofs.YtnagecfpbkffpaaDoor.Q
