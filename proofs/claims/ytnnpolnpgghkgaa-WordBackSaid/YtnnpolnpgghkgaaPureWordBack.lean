import Derived.Test.YtnnpolnpgghkgaaPx5
import Derived.Test.YtnnpolnpgghkgaaPHeads02
import Derived.Test.YtnnpolnpgghkgaaPLine
import Derived.Test.YtnnpolnpgghkgaaPFew02
namespace Go.Proofs.Ytnnpolnpgghkgaa.Pure
open Go.RowKit Go.Proofs.Ytnnpolnpgghkgaa.P Go.Proofs.YtnnpolnpgghkgaaW.PrintWords Go.Proofs.YtnnpolnpgghkgaaW.PrintLast
set_option linter.unusedVariables false
theorem back_end (w : ByteArray) (hw : w.size ≤ 140737488351232) (hs : w.size ≤ 2000) : Ev (fun k => horariumlaw02_WordBack.j2 k w false) true := by
  refine Ev.step (fun k => horariumlaw02_WordBack.j2.eq_2 ..) (Ev.ifn (by simp) (Ev.call (unquote_ev w hw) ?_))
  rcases unqB_or w with ⟨t, h, hq⟩ | h
  · rw [h]
    have ht : t.size ≤ w.size := by have := unqB_size w; rw [h] at this; exact this
    refine Ev.ifp rfl (Ev.call (quote_ev t (by omega)) ?_)
    exact Ev.ifp ((toList_inj _ _).2 hq) heads_ev
  · rw [h]
    refine Ev.ifn (by decide) (Ev.ifp rfl (Ev.ifp ?_ heads_ev))
    rw [ByteArray.toList_eq]
theorem back_loop (l : List ByteArray) (w : ByteArray) (hw : w.size ≤ 140737488351232) (hs : w.size ≤ 2000) (hl : l.length ≤ 30) (hm : ∀ s ∈ l, s.size ≤ 300) : ∀ (d i : Nat), i ≤ l.length → l.length - i ≤ d →
    Ev (fun k => horariumlaw02_WordBack.l0 k l w i) true := by
  have hend : ∀ i, l.length ≤ i → Ev (fun k => horariumlaw02_WordBack.l0 k l w i) true := by
    intro i h1
    refine Ev.step (fun k => horariumlaw02_WordBack.l0.eq_2 ..) (Ev.ifn (by omega) ?_)
    refine Ev.call (join_ev l (by omega) (fun s h => by have := hm s h; omega)) ?_
    have hj := joinB_size l 300 hm
    have hj2 : l.length * (3 * 300 + 2) ≤ 30 * (3 * 300 + 2) := Nat.mul_le_mul_right _ hl
    refine Ev.call (split_ev (joinB l) (by omega)) ?_
    rw [split_join]
    refine Ev.call (same_ev l l (by omega)) ?_
    refine Ev.ifp (by simp) (Ev.ifp rfl ?_)
    exact back_end w hw hs
  intro d
  induction d with
  | zero => intro i h1 hd; exact hend i (by omega)
  | succ d ih =>
    intro i h1 hd
    by_cases hi : i < l.length
    · refine Ev.step (fun k => horariumlaw02_WordBack.l0.eq_2 ..) (Ev.ifp (by omega) (Ev.ifp (by omega) ?_))
      have hget : rdOf ByteArray.empty l (i : Int) = l[i] := by simp [rdOf, hi]
      have hz := hm l[i] (List.getElem_mem hi)
      have hq := quoB_size l[i]
      rw [hget]
      refine Ev.call (quote_ev l[i] (by omega)) (Ev.call (unquote_ev _ (by omega)) ?_)
      rw [unq_quo]
      refine Ev.ifp rfl (Ev.ifp rfl ?_)
      rw [show wrap64 ((i : Int) + 1) = ((i + 1 : Nat) : Int) by rw [w64_in (by omega) (by omega)]; rfl]
      exact ih (i + 1) (by omega) (by omega)
    · exact hend i (by omega)
theorem WordBack (l0 : List ByteArray) (a1 : ByteArray) (h0 : l0.length * 16 ≤ 140737488351232) (h1 : a1.size ≤ 140737488351232) : ∃ k, horariumlaw02_WordBack.f k l0 a1 = some true := by
  apply Ev.rounds
  unfold horariumlaw02_WordBack.f
  obtain ⟨b, hb, hp⟩ := few_ev l0 h0
  refine Ev.call hb ?_
  cases b with
  | false =>
    refine Ev.ifn (by simp) (Ev.step (fun k => horariumlaw02_WordBack.j0.eq_2 ..) ?_)
    exact Ev.ifp rfl heads_ev
  | true =>
    refine Ev.ifp rfl (Ev.step (fun k => horariumlaw02_WordBack.j0.eq_2 ..) ?_)
    obtain ⟨hl, hm⟩ := hp rfl
    by_cases c1 : (a1.size : Int) > 2000
    · exact Ev.ifp (decide_eq_true c1) heads_ev
    · refine Ev.ifn (by simpa using c1) ?_
      exact back_loop l0 a1 h1 (by omega) hl hm l0.length 0 (by omega) (by omega)
end Go.Proofs.Ytnnpolnpgghkgaa.Pure
