import Derived.Test.YtnagecfpbkffpaaDoorPNumRead
import Derived.Test.YtnagecfpbkffpaaDoorQWeeks
import Derived.Test.YtnagecfpbkffpaaDoorPCut1
import Derived.Laws.BitsAllLaws
import Derived.Test.YtnagecfpbkffpaaDoorPx8
import Derived.Test.YtnagecfpbkffpaaDoorPx12
namespace Go.Proofs.YtnagecfpbkffpaaDoor.Q
end Go.Proofs.YtnagecfpbkffpaaDoor.Q
namespace Go.Proofs.YtnagecfpbkffpaaDoor.P
open Go.RowKit Go.Proofs.YtnagecfpbkffpaaDoorW.PrintWords
set_option linter.unusedVariables false
set_option linter.unusedSimpArgs false
def NumAns (p : List Int) (r : Int × Bool) : Prop := match Q.numN p with
  | some n => r = (n, true)
  | none => r.2 = false
theorem num_ans (s : ByteArray) (hs : s.size ≤ 140737488351232) : NumAns (bytesOf s) (if (pwB s).2 = 0 then (wrap64 (pwB s).1, decide ((s.size : Int) ≤ 2)) else (wrap64 (pwB s).1, false)) := by
  unfold NumAns
  cases h : Q.numN (bytesOf s) with
  | none =>
    simp only
    unfold Q.numN at h
    by_cases h0 : (pwB s).2 = 0
    · rw [if_pos h0]
      by_cases h2 : (bytesOf s).length ≤ 2
      · rw [if_pos ⟨h0, h2⟩] at h
        cases h
      · rw [bytesOf_length] at h2
        exact decide_eq_false (by omega)
    · rw [if_neg h0]
  | some n =>
    simp only
    obtain ⟨h1, h2, _⟩ := Q.numN_of _ n h
    unfold Q.numN at h
    by_cases h0 : (Q.pwN (bytesOf s)).2 = 0 ∧ (bytesOf s).length ≤ 2
    · rw [if_pos h0] at h
      have hn : (pwB s).1 = n := by unfold pwB; simpa using h
      have hl := h0.2
      rw [bytesOf_length] at hl
      rw [if_pos (show (pwB s).2 = 0 from h0.1), hn, w64_in (by omega) (by omega), decide_eq_true (by omega)]
    · rw [if_neg h0] at h
      cases h
theorem number_ev (s : ByteArray) (hs : s.size ≤ 140737488351232) : ∃ r, Ev (fun k => clock_number.f k s) r ∧ NumAns (bytesOf s) r := by
  refine ⟨_, ?_, num_ans s hs⟩
  unfold clock_number.f
  refine Ev.call (pw_ev s hs) ?_
  by_cases h : (pwB s).2 = 0
  · exact Ev.eq (Ev.ifp h (Ev.now _)) (if_pos h).symm
  · exact Ev.eq (Ev.ifn h (Ev.now _)) (if_neg h).symm
def RunAns (p : List Int) (r : Int × Int × Bool) : Prop := match Q.runP p with
  | some (a, b) => r = (a, b, true)
  | none => r.2.2 = false
theorem num_none (p : List Int) (r : Int × Bool) (h : NumAns p r) (h2 : r.2 ≠ true) : Q.numN p = none := by
  unfold NumAns at h
  cases hn : Q.numN p with
  | none => rfl
  | some n =>
    rw [hn] at h
    exact absurd (congrArg Prod.snd h) h2
theorem num_some (p : List Int) (r : Int × Bool) (h : NumAns p r) (h2 : r.2 = true) : Q.numN p = some r.1 := by
  unfold NumAns at h
  cases hn : Q.numN p with
  | none => rw [hn] at h; simp only at h; rw [h] at h2; cases h2
  | some n => rw [hn] at h; simp only at h; rw [h]
theorem run_one (p : List Int) (r : Int × Bool) (hp : Q.piecesA 45 [] p = [p]) (h : NumAns p r) : RunAns p (r.1, r.1, r.2) := by
  unfold RunAns Q.runP
  rw [hp]
  simp only
  cases hr : r.2 with
  | true => rw [num_some p r h hr]; rfl
  | false => rw [num_none p r h (by rw [hr]; decide)]; rfl
theorem run_two (p x y : List Int) (r q : Int × Bool) (hp : Q.piecesA 45 [] p = [x, y]) (hx : NumAns x r) (hy : NumAns y q) :
    RunAns p (if r.2 = true then (if q.2 = true then (r.1, q.1, decide (r.1 < q.1)) else (r.1, q.1, false)) else (r.1, q.1, false)) := by
  unfold RunAns Q.runP
  rw [hp]
  simp only
  by_cases hr : r.2 = true
  · rw [if_pos hr, num_some x r hx hr]
    by_cases hq : q.2 = true
    · rw [if_pos hq, num_some y q hy hq]
      simp only [Option.bind_some]
      by_cases hlt : r.1 < q.1
      · rw [if_pos hlt, decide_eq_true hlt]
      · rw [if_neg hlt, decide_eq_false hlt]
    · rw [if_neg hq, num_none y q hy hq]; rfl
  · rw [if_neg hr, num_none x r hx hr]; rfl
theorem run_more (p x y z : List Int) (l : List (List Int)) (hp : Q.piecesA 45 [] p = x :: y :: z :: l) (a b : Int) : RunAns p (a, b, false) := by
  unfold RunAns Q.runP
  rw [hp]
theorem run_ev (s : ByteArray) (hs : s.size ≤ 140737488351232) : ∃ r, Ev (fun k => clock_run.f k s) r ∧ RunAns (bytesOf s) r := by
  unfold clock_run.f
  rcases cut_one s 45 hs with ⟨h1, h2⟩ | ⟨a, b, h1, h2, h3, h4⟩
  · obtain ⟨r, hr1, hr2⟩ := number_ev s hs
    exact ⟨_, Ev.call (Ev.const h2) (Ev.call hr1 (Ev.ifn (by simp) (Ev.now _))), run_one _ r h1 hr2⟩
  · obtain ⟨r, hr1, hr2⟩ := number_ev a (by omega)
    obtain ⟨q, hq1, hq2⟩ := number_ev b (by omega)
    refine ⟨if r.2 = true then (if q.2 = true then (r.1, q.1, decide (r.1 < q.1)) else (r.1, q.1, false)) else (r.1, q.1, false), Ev.call (Ev.const h4) (Ev.call hr1 (Ev.ifp rfl (Ev.call hq1 ?_))), ?_⟩
    · by_cases hr : r.2 = true
      · by_cases hq : q.2 = true
        · exact Ev.eq (Ev.ifp hr (Ev.ifp hq (Ev.now _))) (by rw [if_pos hr, if_pos hq])
        · exact Ev.eq (Ev.ifp hr (Ev.ifn hq (Ev.now _))) (by rw [if_pos hr, if_neg hq])
      · exact Ev.eq (Ev.ifn hr (Ev.now _)) (by rw [if_neg hr])
    · have h1' : Q.piecesA 45 [] (bytesOf s) = bytesOf a :: Q.piecesA 45 [] (bytesOf b) := h1
      by_cases hm : (45 : Int) ∈ bytesOf b
      · have hq : q.2 = false := by
          have h5 := Q.numN_free (bytesOf b) 45 (by omega) hm
          unfold NumAns at hq2
          rw [h5] at hq2
          exact hq2
        have hne : ∃ x y l, Q.piecesA 45 [] (bytesOf b) = x :: y :: l := by
          match hp : Q.piecesA 45 [] (bytesOf b) with
          | [] => exact absurd hp (Q.piecesA_ne _ _ _)
          | [x] =>
            exfalso
            have h6 := Q.pieces_back 45 (bytesOf b) []
            rw [hp] at h6
            have h7 : x = bytesOf b := h6
            exact Q.piecesA_out 45 (bytesOf b) [] (by simp) x (by rw [hp]; exact List.mem_cons_self) (by rw [h7]; exact hm)
          | x :: y :: l => exact ⟨x, y, l, rfl⟩
        obtain ⟨x, y, l, hp⟩ := hne
        rw [hp] at h1'
        have h8 := fun u v => run_more _ _ _ _ _ h1' u v
        rw [hq]
        by_cases hr : r.2 = true
        · rw [if_pos hr, if_neg (by decide)]; exact h8 _ _
        · rw [if_neg hr]; exact h8 _ _
      · rw [Q.piecesA_free 45 (bytesOf b) hm [], List.nil_append] at h1'
        exact run_two _ _ _ r q h1' hr2 hq2
theorem rd_map (ps : List (List Int)) (i : Nat) (h : i < ps.length) : rdOf ByteArray.empty (ps.map strOfNums) (i : Int) = strOfNums ps[i] := by simp [rdOf, h]
end Go.Proofs.YtnagecfpbkffpaaDoor.P
