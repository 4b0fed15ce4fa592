import Derived.Test.YtnagecfpbkffpaaDoorQUnq
import Derived.Lib.Join
import Derived.Lib.Bytealg
namespace Go.Proofs.YtnagecfpbkffpaaDoor.Q
def piecesA (c : Int) : List Int → List Int → List (List Int)
  | pre, [] => [pre]
  | pre, b :: r => if b = c then pre :: piecesA c [] r else piecesA c (pre ++ [b]) r
theorem piecesA_free (c : Int) (p : List Int) (h : c ∉ p) : ∀ pre, piecesA c pre p = [pre ++ p] := by
  induction p with
  | nil => intro pre; simp [piecesA]
  | cons b r ih =>
    intro pre
    have hb : b ≠ c := fun he => h (by simp [he])
    rw [piecesA, if_neg hb, ih (fun hr => h (by simp [hr]))]
    simp
theorem piecesA_cut (c : Int) (p r : List Int) (h : c ∉ p) : ∀ pre, piecesA c pre (p ++ c :: r) = (pre ++ p) :: piecesA c [] r := by
  induction p with
  | nil => intro pre; rw [List.nil_append, piecesA, if_pos rfl]; simp
  | cons b p ih =>
    intro pre
    have hb : b ≠ c := fun he => h (by simp [he])
    rw [List.cons_append, piecesA, if_neg hb, ih (fun hr => h (by simp [hr]))]
    simp
def joinN (c : Int) : List (List Int) → List Int
  | [] => []
  | [p] => p
  | p :: q :: ps => p ++ c :: joinN c (q :: ps)
theorem pieces_join (c : Int) : ∀ ps : List (List Int), ps ≠ [] → (∀ p ∈ ps, c ∉ p) → piecesA c [] (joinN c ps) = ps
  | [], h, _ => absurd rfl h
  | [p], _, h => by simpa [joinN] using piecesA_free c p (h p (by simp)) []
  | p :: q :: ps, _, h => by
    rw [joinN, piecesA_cut c p _ (h p (by simp)), pieces_join c (q :: ps) (by simp) (fun x hx => h x (by simp [hx]))]
    rfl
theorem joinN_length (c : Int) (m : Nat) : ∀ ps : List (List Int), (∀ p ∈ ps, p.length ≤ m) → (joinN c ps).length ≤ ps.length * (m + 1)
  | [], _ => by simp [joinN]
  | [p], h => by have := h p (by simp); simp only [joinN, List.length_cons, List.length_nil]; omega
  | p :: q :: ps, h => by
    have h1 := h p (by simp)
    have h2 := joinN_length c m (q :: ps) (fun x hx => h x (by simp [hx]))
    simp only [joinN, List.length_append, List.length_cons, Nat.succ_mul] at h2 ⊢
    omega
theorem joinN_bytes (c : Int) (hc : 0 ≤ c ∧ c ≤ 255) : ∀ ps : List (List Int), (∀ p ∈ ps, Bs p) → Bs (joinN c ps)
  | [], _ => fun _ h => by cases h
  | [p], h => h p (by simp)
  | p :: q :: ps, h => (h p (by simp)).append (Bs.mk hc (joinN_bytes c hc (q :: ps) (fun x hx => h x (by simp [hx]))))
end Go.Proofs.YtnagecfpbkffpaaDoor.Q
