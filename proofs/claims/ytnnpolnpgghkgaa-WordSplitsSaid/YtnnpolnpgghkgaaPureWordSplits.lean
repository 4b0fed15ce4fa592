import Derived.Test.YtnnpolnpgghkgaaPx7
import Derived.Test.YtnnpolnpgghkgaaPHeads02
import Derived.Test.YtnnpolnpgghkgaaPRefLine
import Derived.Test.YtnnpolnpgghkgaaPFew02
namespace Go.Proofs.Ytnnpolnpgghkgaa.Pure
open Go.RowKit Go.Proofs.Ytnnpolnpgghkgaa.P Go.Proofs.YtnnpolnpgghkgaaW.PrintWords Go.Proofs.YtnnpolnpgghkgaaW.PrintLast
set_option linter.unusedVariables false
theorem splitAns_length : ∀ (ps : List (List Int)) (acc : List ByteArray), (splitAns acc ps).1.length ≤ acc.length + ps.length
  | [], acc => by simp [splitAns]
  | p :: ps, acc => by
    unfold splitAns
    split
    · have := splitAns_length ps (acc ++ [(unqB (strOfNums p)).1])
      simp at this ⊢
      omega
    · simp
theorem WordSplits (l0 : List ByteArray) (a1 : ByteArray) (h0 : l0.length * 16 ≤ 140737488351232) (h1 : a1.size ≤ 140737488351232) : ∃ k, horariumlaw02_WordSplits.f k l0 a1 = some true := by
  apply Ev.rounds
  unfold horariumlaw02_WordSplits.f
  obtain ⟨b, hb, hp⟩ := few_ev l0 h0
  refine Ev.call hb ?_
  cases b with
  | false =>
    refine Ev.ifn (by simp) (Ev.step (fun k => horariumlaw02_WordSplits.j0.eq_2 ..) ?_)
    exact Ev.ifp rfl heads_ev
  | true =>
    refine Ev.ifp rfl (Ev.step (fun k => horariumlaw02_WordSplits.j0.eq_2 ..) ?_)
    obtain ⟨hl, hm⟩ := hp rfl
    by_cases c1 : (a1.size : Int) > 3000
    · exact Ev.ifp (decide_eq_true c1) heads_ev
    · refine Ev.ifn (by simpa using c1) ?_
      have hm' : ∀ s ∈ l0, s.size ≤ 1000000 := fun s h => by have := hm s h; omega
      refine Ev.call (split_ev a1 (by omega)) (Ev.call (refsplit_ev a1 (by omega)) (Ev.call (join_ev l0 (by omega) hm') (Ev.call (refjoin_ev l0 (by omega) hm') ?_)))
      refine Ev.ifp rfl (Ev.call (same_ev _ _ ?_) (Ev.ifp (by simp) (Ev.ifp rfl (Ev.ifp rfl heads_ev))))
      unfold splitB
      split
      · simp
      · have h2 := splitAns_length (Q.piecesA 32 [] (bytesOf a1)) []
        have h3 := Q.piecesA_length 32 (bytesOf a1) []
        rw [bytesOf_length] at h3
        simp at h2
        omega
end Go.Proofs.Ytnnpolnpgghkgaa.Pure
