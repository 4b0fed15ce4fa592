import Derived.Test.YtnagecfpbkffpaaDoorQUnq
import Derived.Lib.Join
import Derived.Lib.Bytealg
namespace Go.Proofs.YtnagecfpbkffpaaDoor.Q
def piecesA (c : Int) : List Int → List Int → List (List Int)
  | pre, [] => [pre]
  | pre, b :: r => if b = c then pre :: piecesA c [] r else piecesA c (pre ++ [b]) r
theorem piecesA_free (c : Int) (p : List Int) (h : c ∉ p) : ∀ pre, piecesA c pre p = [pre ++ p] := by
  induction p with
  | nil => intro pre; simp [piecesA]
  | cons b r ih =>
    intro pre
    have hb : b ≠ c := fun he => h (by simp [he])
    rw [piecesA, if_neg hb, ih (fun hr => h (by simp [hr]))]
    simp
theorem piecesA_cut (c : Int) (p r : List Int) (h : c ∉ p) : ∀ pre, piecesA c pre (p ++ c :: r) = (pre ++ p) :: piecesA c [] r := by
  induction p with
  | nil => intro pre; rw [List.nil_append, piecesA, if_pos rfl]; simp
  | cons b p ih =>
    intro pre
    have hb : b ≠ c := fun he => h (by simp [he])
    rw [List.cons_append, piecesA, if_neg hb, ih (fun hr => h (by simp [hr]))]
    simp
theorem piecesA_length (c : Int) (l : List Int) : ∀ pre, (piecesA c pre l).length ≤ l.length + 1 := by
  induction l with
  | nil => intro pre; simp [piecesA]
  | cons b r ih =>
    intro pre
    unfold piecesA
    split
    · have := ih []; simp only [List.length_cons]; omega
    · have := ih (pre ++ [b]); simp only [List.length_cons]; omega
theorem piecesA_size (c : Int) (l : List Int) : ∀ pre, ∀ p ∈ piecesA c pre l, p.length ≤ pre.length + l.length := by
  induction l with
  | nil => intro pre p hp; simp [piecesA] at hp; subst hp; simp
  | cons b r ih =>
    intro pre p hp
    unfold piecesA at hp
    split at hp
    · rcases List.mem_cons.1 hp with rfl | hp
      · simp
      · have := ih [] p hp; simp at this ⊢; omega
    · have := ih (pre ++ [b]) p hp; simp at this ⊢; omega
theorem piecesA_Bs (c : Int) (l : List Int) (hl : Bs l) : ∀ pre, Bs pre → ∀ p ∈ piecesA c pre l, Bs p := by
  induction l with
  | nil => intro pre hp p h; simp [piecesA] at h; subst h; exact hp
  | cons b r ih =>
    intro pre hpre p hp
    unfold piecesA at hp
    split at hp
    · rcases List.mem_cons.1 hp with rfl | hp
      · exact hpre
      · exact ih hl.cons.2 [] (fun _ h => by cases h) p hp
    · exact ih hl.cons.2 _ (hpre.append (Bs.mk hl.cons.1 (fun _ h => by cases h))) p hp
theorem pieces_index (c : UInt8) (l : List UInt8) : ∀ pre : List Int,
    (Lib.indexByte l c = -1 ∧ piecesA (c.toNat : Int) pre (nums l) = [pre ++ nums l]) ∨
    ∃ j : Nat, Lib.indexByte l c = j ∧ j < l.length ∧ piecesA (c.toNat : Int) pre (nums l) = (pre ++ nums (l.take j)) :: piecesA (c.toNat : Int) [] (nums (l.drop (j + 1))) := by
  induction l with
  | nil => intro pre; exact .inl ⟨rfl, by simp [nums, piecesA]⟩
  | cons b l ih =>
    intro pre
    by_cases hb : b = c
    · subst hb
      refine .inr ⟨0, by simp [Lib.indexByte], by simp, ?_⟩
      show piecesA _ pre ((b.toNat : Int) :: nums l) = _
      rw [piecesA, if_pos rfl]
      simp [nums]
    · have hbc : ((b.toNat : Nat) : Int) ≠ (c.toNat : Int) := by
        intro h
        exact hb (UInt8.toNat_inj.1 (by omega))
      have hstep : piecesA (c.toNat : Int) pre (nums (b :: l)) = piecesA (c.toNat : Int) (pre ++ [(b.toNat : Int)]) (nums l) := by
        show piecesA _ pre ((b.toNat : Int) :: nums l) = _
        rw [piecesA, if_neg hbc]
      rcases ih (pre ++ [(b.toNat : Int)]) with ⟨h1, h2⟩ | ⟨j, h1, h2, h3⟩
      · refine .inl ⟨by simp [Lib.indexByte, hb, h1], ?_⟩
        rw [hstep, h2]
        simp [nums]
      · refine .inr ⟨j + 1, ?_, by simp; omega, ?_⟩
        · have : ¬ ((j : Int) = -1) := by omega
          simp [Lib.indexByte, hb, h1, this]
        · rw [hstep, h3]
          simp [nums]
def joinN (c : Int) : List (List Int) → List Int
  | [] => []
  | [p] => p
  | p :: q :: ps => p ++ c :: joinN c (q :: ps)
theorem pieces_join (c : Int) : ∀ ps : List (List Int), ps ≠ [] → (∀ p ∈ ps, c ∉ p) → piecesA c [] (joinN c ps) = ps
  | [], h, _ => absurd rfl h
  | [p], _, h => by simpa [joinN] using piecesA_free c p (h p (by simp)) []
  | p :: q :: ps, _, h => by
    rw [joinN, piecesA_cut c p _ (h p (by simp)), pieces_join c (q :: ps) (by simp) (fun x hx => h x (by simp [hx]))]
    rfl
theorem joinN_length (c : Int) (m : Nat) : ∀ ps : List (List Int), (∀ p ∈ ps, p.length ≤ m) → (joinN c ps).length ≤ ps.length * (m + 1)
  | [], _ => by simp [joinN]
  | [p], h => by have := h p (by simp); simp only [joinN, List.length_cons, List.length_nil]; omega
  | p :: q :: ps, h => by
    have h1 := h p (by simp)
    have h2 := joinN_length c m (q :: ps) (fun x hx => h x (by simp [hx]))
    simp only [joinN, List.length_append, List.length_cons, Nat.succ_mul] at h2 ⊢
    omega
theorem joinN_bytes (c : Int) (hc : 0 ≤ c ∧ c ≤ 255) : ∀ ps : List (List Int), (∀ p ∈ ps, Bs p) → Bs (joinN c ps)
  | [], _ => fun _ h => by cases h
  | [p], h => h p (by simp)
  | p :: q :: ps, h => (h p (by simp)).append (Bs.mk hc (joinN_bytes c hc (q :: ps) (fun x hx => h x (by simp [hx]))))
end Go.Proofs.YtnagecfpbkffpaaDoor.Q
