import Derived.Test.YtnnpolnpgghkgaaPx8
import Derived.Test.YtnnpolnpgghkgaaPHeads02
import Derived.Test.YtnnpolnpgghkgaaPRefCut
namespace Go.Proofs.Ytnnpolnpgghkgaa.Pure
open Go.RowKit Go.Proofs.Ytnnpolnpgghkgaa.P Go.Proofs.YtnnpolnpgghkgaaW.PrintWords Go.Proofs.YtnnpolnpgghkgaaW.PrintLast
set_option linter.unusedVariables false
set_option linter.unusedSimpArgs false
theorem splitAns_ok : ∀ (ps : List (List Int)) (acc : List ByteArray), (splitAns acc ps).2.2 = 0 → splitAns acc ps = (acc ++ ps.map (fun p => (unqB (strOfNums p)).1), 0, 0)
  | [], acc, _ => by simp [splitAns]
  | p :: ps, acc, h => by
    unfold splitAns at h ⊢
    by_cases hc : (unqB (strOfNums p)).2 = 0
    · rw [if_pos hc] at h ⊢
      rw [splitAns_ok ps _ h]
      simp
    · rw [if_neg hc] at h
      cases h
theorem parts_loop (ps : List (List Int)) (hl : ps.length ≤ 1000000) (hm : ∀ p ∈ ps, p.length ≤ 1000000) : ∀ (d i : Nat), i ≤ ps.length → ps.length - i ≤ d → splitAns [] ps = splitAns ((ps.take i).map fun p => (unqB (strOfNums p)).1) (ps.drop i) →
    Ev (fun k => horariumlaw02_WordParts.l0 k (ps.map strOfNums) (splitAns [] ps).1 (splitAns [] ps).2.1 (splitAns [] ps).2.2 i) true := by
  have hend : ∀ i, i ≤ ps.length → ps.length ≤ i → splitAns [] ps = splitAns ((ps.take i).map fun p => (unqB (strOfNums p)).1) (ps.drop i) →
      Ev (fun k => horariumlaw02_WordParts.l0 k (ps.map strOfNums) (splitAns [] ps).1 (splitAns [] ps).2.1 (splitAns [] ps).2.2 i) true := by
    intro i h1 h2 hR
    rw [List.drop_eq_nil_of_le h2, List.take_of_length_le h2, splitAns] at hR
    rw [hR]
    refine Ev.step (fun k => horariumlaw02_WordParts.l0.eq_2 ..) (Ev.ifn (by rw [List.length_map]; omega) ?_)
    exact Ev.ifp rfl (Ev.ifp (by simp) (Ev.ifp rfl heads_ev))
  intro d
  induction d with
  | zero => intro i h1 hd hR; exact hend i h1 (by omega) hR
  | succ d ih =>
    intro i h1 hd hR
    by_cases hi : i < ps.length
    · have hget : rdOf ByteArray.empty (ps.map strOfNums) (i : Int) = strOfNums ps[i] := by simp [rdOf, hi]
      have hz := hm ps[i] (List.getElem_mem hi)
      refine Ev.step (fun k => horariumlaw02_WordParts.l0.eq_2 ..) (Ev.ifp (by rw [List.length_map]; omega) (Ev.ifp (by omega) ?_))
      rw [hget]
      refine Ev.call (unquote_ev _ (by rw [strOfNums_size]; omega)) ?_
      rw [List.drop_eq_getElem_cons hi, splitAns] at hR
      by_cases hc : (unqB (strOfNums ps[i])).2 = 0
      · rw [if_pos hc] at hR
        have hne : ((strOfNums ps[i]).toList == ([] : List UInt8)) = false := by
          rw [beq_eq_false_iff_ne]
          intro h
          have h0 := (empty_bytes _).1 h
          have : strOfNums ps[i] = ⟨#[]⟩ := by
            apply ByteArray.ext
            exact Array.eq_empty_of_size_eq_zero h0
          rw [this] at hc
          cases hc
        have hR2 : splitAns [] ps = splitAns ((ps.take (i + 1)).map fun p => (unqB (strOfNums p)).1) (ps.drop (i + 1)) := by
          rw [hR, List.take_succ_eq_append_getElem hi, List.map_append]
          rfl
        have w1 : wrap64 ((i : Int) + 1) = ((i + 1 : Nat) : Int) := by rw [w64_in (by omega) (by omega)]; rfl
        refine Ev.ifp hc (Ev.step (fun k => horariumlaw02_WordParts.j2.eq_2 ..) ?_)
        rw [hne, w1]
        refine Ev.ifn (by simp) ?_
        by_cases he : (splitAns [] ps).2.2 = 0
        · have hall := splitAns_ok ps [] he
          have hx : (splitAns [] ps).1 = ps.map (fun p => (unqB (strOfNums p)).1) := by rw [hall]; rfl
          have hlen : (splitAns [] ps).1.length = ps.length := by rw [hx, List.length_map]
          refine Ev.ifp he (Ev.ifn (by rw [hlen]; omega) (Ev.ifp (by omega) (Ev.ifp (by rw [hlen]; omega) ?_)))
          refine Ev.ifp ?_ (ih (i + 1) (by omega) (by omega) hR2)
          rw [hx]
          simp [rdOf, hi]
        · exact Ev.ifn he (ih (i + 1) (by omega) (by omega) hR2)
      · rw [if_neg hc] at hR
        rw [hR]
        refine Ev.ifn hc (Ev.step (fun k => horariumlaw02_WordParts.j2.eq_2 ..) ?_)
        refine Ev.ifp rfl (Ev.ifp rfl (Ev.ifp ?_ (Ev.ifp rfl heads_ev)))
        show (((ps.take i).map fun p => (unqB (strOfNums p)).1).length : Int) = i
        rw [List.length_map, List.length_take]
        omega
    · exact hend i h1 (by omega) hR
theorem WordParts : horariumlaw02_WordParts.Pure := by
  intro a0 h0
  apply Ev.rounds
  unfold horariumlaw02_WordParts.f
  by_cases c0 : (a0.size : Int) > 2000
  · exact Ev.ifp c0 (Ev.step (fun k => horariumlaw02_WordParts.j0.eq_2 ..) (Ev.ifp rfl heads_ev))
  · refine Ev.ifn c0 (Ev.step (fun k => horariumlaw02_WordParts.j0.eq_2 ..) ?_)
    by_cases c1 : a0.toList = []
    · exact Ev.ifp (by simp [c1]) heads_ev
    · refine Ev.ifn (by simp [c1]) ?_
      refine Ev.call (refcut_ev a0 32 (by omega)) (Ev.call (split_ev a0 (by omega)) ?_)
      have hs : splitB a0 = splitAns [] (Q.piecesA 32 [] (bytesOf a0)) := by
        unfold splitB
        rw [if_neg (fun h => c1 ((empty_bytes _).2 h))]
      rw [hs]
      have h1 := Q.piecesA_length 32 (bytesOf a0) []
      rw [bytesOf_length] at h1
      refine parts_loop (Q.piecesA 32 [] (bytesOf a0)) (by omega) ?_ _ 0 (Nat.zero_le _) (Nat.le_refl _) rfl
      intro p hp
      have h2 := Q.piecesA_size 32 (bytesOf a0) [] p hp
      rw [bytesOf_length] at h2
      simp at h2
      omega
end Go.Proofs.Ytnnpolnpgghkgaa.Pure
