import Derived.Test.YtnagecfpbkffpaaDoorPCTime
import Derived.Test.YtnagecfpbkffpaaDoorPx9
import Derived.Test.YtnagecfpbkffpaaDoorPx14
import Derived.Test.YtnagecfpbkffpaaDoorPNum
import Derived.Laws.BitsAllLaws
import Derived.Test.YtnagecfpbkffpaaDoorPDays
import Derived.Test.YtnagecfpbkffpaaDoorPx15
import Derived.Test.YtnagecfpbkffpaaDoorPx4
import Derived.Test.YtnagecfpbkffpaaDoorPx16
import Derived.Test.YtnagecfpbkffpaaDoorPx10
section
namespace Go.Proofs.YtnagecfpbkffpaaDoor.P
open Go.RowKit Go.Proofs.YtnagecfpbkffpaaDoorW.PrintWords
set_option linter.unusedVariables false
set_option linter.unusedSimpArgs false
def parseB (a b c : Int) (s : ByteArray) : Int × Int × Int × Int × Int := Q.parseN a b c (bytesOf s)
theorem slots_ev (s : ByteArray) (hs : s.size ≤ 140737488351232) : Ev (fun k => clock_slots.f k s) (Q.slotsN (bytesOf s)) := by
  unfold clock_slots.f
  rcases cut_one s 43 hs with ⟨h1, h2⟩ | ⟨a, b, h1, h2, h3, h4⟩
  · refine Ev.call (Ev.const h2) (Ev.ifn (by simp) (Ev.eq (Ev.now _) ?_))
    unfold Q.slotsN
    rw [show ((43 : UInt8).toNat : Int) = 43 from rfl] at h1
    rw [h1]
  · rw [show ((43 : UInt8).toNat : Int) = 43 from rfl] at h1
    refine Ev.call (Ev.const h4) (Ev.ifp rfl (Ev.call (pw_ev a (by omega)) (Ev.call (pw_ev b (by omega)) ?_)))
    have hno : ∀ x8 x9 x10 x11, Ev (fun k => clock_slots.j0 k x8 x9 x10 x11 true) (0, 0, 3) := fun x8 x9 x10 x11 => Ev.step (fun k => clock_slots.j0.eq_2 ..) (Ev.ifp rfl (Ev.now _))
    by_cases hm : (43 : Int) ∈ bytesOf b
    · obtain ⟨x, y, l, hp⟩ := Q.pieces_two 43 _ hm
      have e : Q.slotsN (bytesOf s) = (0, 0, 3) := by
        unfold Q.slotsN
        rw [h1, hp]
      have e2 : pwB b = (0, 3) := Q.pw_free _ 43 (by omega) hm
      rw [e, e2]
      by_cases h5 : (pwB a).2 = 3
      · exact Ev.ifp h5 (hno _ _ _ _)
      · exact Ev.ifn h5 (hno _ _ _ _)
    · have e : Q.slotsN (bytesOf s) = if (pwB a).2 = 3 ∨ (pwB b).2 = 3 then (0, 0, 3) else if (pwB a).2 = 0 ∧ (pwB b).2 = 0 ∧ (pwB a).1 ≤ 1000 ∧ (pwB b).1 ≤ 1000 then ((pwB a).1, (pwB b).1, 0) else (0, 0, 6) := by
        unfold Q.slotsN
        rw [h1, Q.pieces_one 43 _ hm]
        rfl
      rw [e]
      by_cases h5 : (pwB a).2 = 3
      · rw [if_pos (.inl h5)]
        exact Ev.ifp h5 (hno _ _ _ _)
      refine Ev.ifn h5 ?_
      by_cases h6 : (pwB b).2 = 3
      · rw [if_pos (.inr h6), h6]
        exact hno _ _ _ _
      rw [if_neg (by simp [h5, h6]), show ((pwB b).2 == 3) = false by simp [h6]]
      have ra := Q.pw_cases (bytesOf a)
      have rb := Q.pw_cases (bytesOf b)
      change pwB a = _ ∨ pwB a = _ ∨ ∃ n : Int, _ ∧ _ ∧ pwB a = _ at ra
      change pwB b = _ ∨ pwB b = _ ∨ ∃ n : Int, _ ∧ _ ∧ pwB b = _ at rb
      refine Ev.step (fun k => clock_slots.j0.eq_2 ..) (Ev.ifn (by decide) ?_)
      rcases ra with ra | ra | ⟨n, n0, n1, ra⟩
      · rw [ra] at h5; exact absurd rfl h5
      · rw [ra]
        exact Ev.ifn (by decide) (Ev.eq (Ev.now _) (by simp))
      rcases rb with rb | rb | ⟨m, m0, m1, rb⟩
      · rw [rb] at h6; exact absurd rfl h6
      · rw [ra, rb]
        exact Ev.ifp rfl (Ev.ifn (by decide) (Ev.eq (Ev.now _) (by simp)))
      rw [ra, rb]
      refine Ev.ifp rfl (Ev.ifp rfl ?_)
      simp only
      by_cases h7 : n > 1000
      · exact Ev.ifp h7 (Ev.eq (Ev.now _) (by rw [if_neg (by simp; omega)]))
      · refine Ev.ifn h7 ?_
        by_cases h8 : m > 1000
        · exact Ev.ifp h8 (Ev.eq (Ev.now _) (by rw [if_neg (by simp; omega)]))
        · rw [w64_in (by omega) (by omega), w64_in (by omega) (by omega)]
          exact Ev.ifn h8 (Ev.eq (Ev.now _) (by rw [if_pos (by simp; omega)]))
theorem weeks_facts (s : ByteArray) : (pwkB s).2 = 0 → 0 ≤ (pwkB s).1 ∧ (pwkB s).1 ≤ 4294967295 := by
  intro h
  have h2 := Q.weeks_of (bytesOf s) (pwkB s).1 (Prod.ext rfl h)
  omega
theorem days_facts (s : ByteArray) : (pdB s).2 ≠ 3 → (pdB s).2 = 0 ∧ 0 ≤ (pdB s).1 ∧ (pdB s).1 ≤ 255 := by
  intro h
  rcases pdB_or s with ⟨h2, _⟩ | ⟨e, h2, h3, h4, _⟩
  · rw [h2] at h; exact absurd rfl h
  · rw [h4]; exact ⟨rfl, by simp only; omega, by simp only; omega⟩
theorem parse_end (a b c : Int) (x y : ByteArray) (h : Int × Int × Int) : Ev (fun k => if (pwkB x).2 = 3 then (clock_Parse.j0 k (pwkB x).1 (pwkB x).2 (pdB y).1 h.1 h.2.1 h.2.2 true a b c) else (if (pdB y).2 = 0 then (clock_Parse.j0 k (pwkB x).1 (pwkB x).2 (pdB y).1 h.1 h.2.1 h.2.2 (h.2.2 == 3) a b c) else (clock_Parse.j0 k (pwkB x).1 (pwkB x).2 (pdB y).1 h.1 h.2.1 h.2.2 true a b c))) (Q.timeN a b c (pwkB x) (pdB y) h) := by
  have hno : ∀ x7 x8 x9 x11 x12 x13, Ev (fun k => clock_Parse.j0 k x7 x8 x9 x11 x12 x13 true a b c) (0, 0, 0, 0, 3) := fun x7 x8 x9 x11 x12 x13 => Ev.step (fun k => clock_Parse.j0.eq_2 ..) (Ev.ifp rfl (Ev.now _))
  have wf := weeks_facts x
  have df := days_facts y
  generalize pwkB x = e at *
  generalize pdB y = f at *
  unfold Q.timeN
  by_cases h1 : e.2 = 3
  · rw [if_pos (.inl h1)]
    exact Ev.ifp h1 (hno _ _ _ _ _ _)
  refine Ev.ifn h1 ?_
  by_cases h2 : f.2 = 3
  · rw [if_pos (.inr (.inl h2))]
    exact Ev.ifn (by omega) (hno _ _ _ _ _ _)
  obtain ⟨h3, h4, h5⟩ := df h2
  refine Ev.ifp h3 ?_
  by_cases h6 : h.2.2 = 3
  · rw [if_pos (.inr (.inr h6)), h6]
    exact hno _ _ _ _ _ _
  rw [if_neg (by simp [h1, h2, h6]), show (h.2.2 == 3) = false by simp [h6]]
  refine Ev.step (fun k => clock_Parse.j0.eq_2 ..) (Ev.ifn (by decide) ?_)
  by_cases h7 : e.2 = 0
  · refine Ev.ifp h7 ?_
    by_cases h8 : h.2.2 = 0
    · refine Ev.ifp h8 (Ev.call (Ev.const (right_eq a b c e.1 f.1 h.1 h.2.1 (wf h7).1 (wf h7).2 h4 h5)) ?_)
      by_cases h9 : rightB a b c e.1 f.1 h.1 h.2.1 = true
      · exact Ev.eq (Ev.ifp h9 (Ev.now _)) (if_pos ⟨h7, h8, h9⟩).symm
      · exact Ev.eq (Ev.ifn h9 (Ev.now _)) (if_neg (fun q => h9 q.2.2)).symm
    · exact Ev.eq (Ev.ifn h8 (Ev.now _)) (if_neg (fun q => h8 q.2.1)).symm
  · exact Ev.eq (Ev.ifn h7 (Ev.now _)) (if_neg (fun q => h7 q.1)).symm
theorem pieces_small (s : ByteArray) (c : Int) : ∀ p ∈ Q.piecesA c [] (bytesOf s), p.length ≤ s.size ∧ Q.Bs p := by
  intro p hp
  have h := Q.piecesA_size c (bytesOf s) [] p hp
  rw [List.length_nil, bytesOf_length] at h
  exact ⟨by omega, Q.piecesA_Bs c (bytesOf s) (bytes_Bs s) [] (fun _ h => by cases h) p hp⟩
theorem three {α : Type} (l : List α) (h : l.length = 3) : ∃ x y z, l = [x, y, z] := by
  match l, h with
  | [x, y, z], _ => exact ⟨x, y, z, rfl⟩
theorem two {α : Type} (l : List α) (h : l.length = 2) : ∃ x y, l = [x, y] := by
  match l, h with
  | [x, y], _ => exact ⟨x, y, rfl⟩
theorem parse_not3 (a b c : Int) (hg : gridB a b c = true) (p : List Int) (h : (Q.piecesA 32 [] p).length ≠ 3) : Q.parseN a b c p = (0, 0, 0, 0, 3) := by
  unfold Q.parseN
  rw [if_pos hg]
  split
  · rename_i x y z hp
    rw [hp] at h
    exact absurd rfl h
  · rfl
theorem slots_not2 (p : List Int) (h : (Q.piecesA 43 [] p).length ≠ 2) : Q.slotsN p = (0, 0, 3) := by
  unfold Q.slotsN
  split
  · rename_i x y hp
    rw [hp] at h
    exact absurd rfl h
  · rfl
theorem parse_ev (a b c : Int) (s : ByteArray) (hs : s.size ≤ 200000) : Ev (fun k => clock_Parse.f k a b c s) (parseB a b c s) := by
  unfold clock_Parse.f parseB
  refine Ev.call (Ev.const (grid_eq a b c)) ?_
  by_cases hg : gridB a b c = true
  · refine Ev.ifp hg (Ev.call (strsplit_ev s 32 (by omega)) ?_)
    unfold cutB
    rw [show ((32 : UInt8).toNat : Int) = 32 from rfl]
    have hsm := pieces_small s 32
    by_cases h3 : (Q.piecesA 32 [] (bytesOf s)).length = 3
    · obtain ⟨x, y, z, hp⟩ := three _ h3
      unfold Q.parseN
      rw [if_pos hg]
      rw [hp] at hsm ⊢
      obtain ⟨hx, bx⟩ := hsm x (by simp)
      obtain ⟨hy, by_⟩ := hsm y (by simp)
      obtain ⟨hz, bz⟩ := hsm z (by simp)
      have zx : (strOfNums x).size ≤ 200000 := by rw [strOfNums_size]; omega
      have zy : (strOfNums y).size ≤ 200000 := by rw [strOfNums_size]; omega
      have zz : (strOfNums z).size ≤ 200000 := by rw [strOfNums_size]; omega
      have e := parse_end a b c (strOfNums x) (strOfNums y) (Q.slotsN z)
      have ez := slots_ev (strOfNums z) (by omega)
      rw [bytes_str z bz] at ez
      simp only
      rw [show Q.parseWN x = pwkB (strOfNums x) by unfold pwkB; rw [bytes_str x bx], show findD 127 1 y = pdB (strOfNums y) by unfold pdB; rw [bytes_str y by_]]
      exact Ev.ifp rfl (Ev.ifp (by simp only [List.map_cons, List.map_nil, List.length_cons, List.length_nil]; omega) (Ev.call (pwk_ev (strOfNums x) zx) (Ev.ifp (by simp only [List.map_cons, List.map_nil, List.length_cons, List.length_nil]; omega) (Ev.call (pd_ev (strOfNums y) (by omega)) (Ev.ifp (by simp only [List.map_cons, List.map_nil, List.length_cons, List.length_nil]; omega) (Ev.call ez e))))))
    · rw [parse_not3 a b c hg _ h3]
      exact Ev.ifn (by rw [List.length_map]; omega) (Ev.now _)
  · unfold Q.parseN
    rw [if_neg hg]
    exact Ev.ifn hg (Ev.now _)
theorem refparse_end (a b c : Int) (x y z : ByteArray) (hz : z.size ≤ 200000) : Ev (fun k => if (pwkB x).2 = 3 then (horariumref10_Parse.j0 k (pwkB x).1 (pwkB x).2 (pdB y).1 (cutB z 43) true a b c) else (if (pdB y).2 = 3 then (horariumref10_Parse.j0 k (pwkB x).1 (pwkB x).2 (pdB y).1 (cutB z 43) true a b c) else (horariumref10_Parse.j0 k (pwkB x).1 (pwkB x).2 (pdB y).1 (cutB z 43) (((cutB z 43).length : Int) != 2) a b c))) (Q.timeN a b c (pwkB x) (pdB y) (Q.slotsN (bytesOf z))) := by
  have hno : ∀ x7 x8 x9 L, Ev (fun k => horariumref10_Parse.j0 k x7 x8 x9 L true a b c) (0, 0, 0, 0, 3) := fun x7 x8 x9 L => Ev.step (fun k => horariumref10_Parse.j0.eq_2 ..) (Ev.ifp rfl (Ev.now _))
  have hno1 : ∀ x7 x8 x9 x12 x13 x14 x15, Ev (fun k => horariumref10_Parse.j1 k x7 x8 x9 x12 x13 x14 x15 true a b c) (0, 0, 0, 0, 3) := fun x7 x8 x9 x12 x13 x14 x15 => Ev.step (fun k => horariumref10_Parse.j1.eq_2 ..) (Ev.ifp rfl (Ev.now _))
  have hno2 : ∀ x7 x9 x12 x14, Ev (fun k => horariumref10_Parse.j2 k x7 x9 x12 x14 true a b c) (0, 0, 0, 0, 6) := fun x7 x9 x12 x14 => Ev.step (fun k => horariumref10_Parse.j2.eq_2 ..) (Ev.ifp rfl (Ev.now _))
  have wf := weeks_facts x
  have df := days_facts y
  generalize pwkB x = e at *
  generalize pdB y = f at *
  by_cases h1 : e.2 = 3
  · unfold Q.timeN
    rw [if_pos (.inl h1)]
    exact Ev.ifp h1 (hno _ _ _ _)
  refine Ev.ifn h1 ?_
  by_cases h2 : f.2 = 3
  · unfold Q.timeN
    rw [if_pos (.inr (.inl h2))]
    exact Ev.ifp h2 (hno _ _ _ _)
  refine Ev.ifn h2 ?_
  obtain ⟨h3, h4, h5⟩ := df h2
  by_cases hl : (Q.piecesA 43 [] (bytesOf z)).length = 2
  · obtain ⟨u, v, hp⟩ := two _ hl
    have hsm := pieces_small z 43
    rw [hp] at hsm
    obtain ⟨hu, bu⟩ := hsm u (by simp)
    obtain ⟨hv, bv⟩ := hsm v (by simp)
    have ec : cutB z 43 = [strOfNums u, strOfNums v] := by unfold cutB; rw [hp]; rfl
    have es : Q.slotsN (bytesOf z) = if (Q.pwN u).2 = 3 ∨ (Q.pwN v).2 = 3 then (0, 0, 3) else if (Q.pwN u).2 = 0 ∧ (Q.pwN v).2 = 0 ∧ (Q.pwN u).1 ≤ 1000 ∧ (Q.pwN v).1 ≤ 1000 then ((Q.pwN u).1, (Q.pwN v).1, 0) else (0, 0, 6) := by
      unfold Q.slotsN
      rw [hp]
    have eu := refpw_ev (strOfNums u) (by rw [strOfNums_size]; omega)
    have ev := refpw_ev (strOfNums v) (by rw [strOfNums_size]; omega)
    unfold pwB at eu ev
    rw [bytes_str u bu] at eu
    rw [bytes_str v bv] at ev
    rw [ec, es]
    refine Ev.step (fun k => horariumref10_Parse.j0.eq_2 ..) (Ev.ifn (by simp) (Ev.ifp (by simp only [List.map_cons, List.map_nil, List.length_cons, List.length_nil]; omega) (Ev.call eu (Ev.ifp (by simp only [List.map_cons, List.map_nil, List.length_cons, List.length_nil]; omega) (Ev.call ev ?_)))))
    have ra := Q.pw_cases u
    have rb := Q.pw_cases v
    generalize Q.pwN u = m at *
    generalize Q.pwN v = n at *
    clear eu ev ec es hp hsm
    by_cases h6 : m.2 = 3
    · rw [if_pos (.inl h6)]
      refine Ev.ifp h6 (Ev.eq (hno1 _ _ _ _ _ _ _) ?_)
      unfold Q.timeN
      rw [if_pos (.inr (.inr rfl))]
    refine Ev.ifn h6 ?_
    by_cases h7 : n.2 = 3
    · rw [if_pos (.inr h7), h7]
      refine Ev.eq (hno1 _ _ _ _ _ _ _) ?_
      unfold Q.timeN
      rw [if_pos (.inr (.inr rfl))]
    rw [if_neg (by simp [h6, h7]), show (n.2 == 3) = false by simp [h7]]
    refine Ev.step (fun k => horariumref10_Parse.j1.eq_2 ..) (Ev.ifn (by decide) ?_)
    have six : ∀ q : Int × Int × Int, q = (0, 0, 6) ∨ e.2 ≠ 0 → q.2.2 ≠ 3 → Q.timeN a b c e f q = (0, 0, 0, 0, 6) := by
      intro q hq hq3
      unfold Q.timeN
      rw [if_neg (by simp [h1, h2, hq3]), if_neg]
      rintro ⟨k1, k2, _⟩
      rcases hq with rfl | hq
      · simp at k2
      · exact hq k1
    by_cases h8 : e.2 = 0
    · refine Ev.ifp h8 ?_
      rcases ra with ra | ra | ⟨i, i0, i1, ra⟩
      · rw [ra] at h6; exact absurd rfl h6
      · refine Ev.ifn (by rw [ra]; decide) (Ev.eq (hno2 _ _ _ _) ?_)
        rw [if_neg (by rw [ra]; simp)]
        exact (six _ (.inl rfl) (by decide)).symm
      rcases rb with rb | rb | ⟨j, j0, j1, rb⟩
      · rw [rb] at h7; exact absurd rfl h7
      · refine Ev.ifp (by rw [ra]) (Ev.ifn (by rw [rb]; decide) (Ev.eq (hno2 _ _ _ _) ?_))
        rw [if_neg (by rw [rb]; simp)]
        exact (six _ (.inl rfl) (by decide)).symm
      rw [ra, rb]
      refine Ev.ifp rfl (Ev.ifp rfl ?_)
      simp only
      by_cases h9 : i > 1000
      · refine Ev.ifp h9 (Ev.eq (hno2 _ _ _ _) ?_)
        rw [if_neg (by simp; omega)]
        exact (six _ (.inl rfl) (by decide)).symm
      refine Ev.ifn h9 ?_
      by_cases h10 : j > 1000
      · rw [decide_eq_true h10]
        refine Ev.eq (hno2 _ _ _ _) ?_
        rw [if_neg (by simp; omega)]
        exact (six _ (.inl rfl) (by decide)).symm
      rw [decide_eq_false h10, if_pos (by simp; omega)]
      refine Ev.step (fun k => horariumref10_Parse.j2.eq_2 ..) (Ev.ifn (by decide) ?_)
      rw [w64_in (by omega) (by omega), w64_in (by omega) (by omega)]
      refine Ev.call (refright_ev a b c e.1 f.1 i j (wf h8).1 (wf h8).2 h4 h5 (by omega)) ?_
      unfold Q.timeN
      rw [if_neg (show ¬ (e.2 = 3 ∨ f.2 = 3 ∨ ((i, j, (0 : Int)) : Int × Int × Int).2.2 = 3) by simp [h1, h2])]
      by_cases h11 : rightB a b c e.1 f.1 i j = true
      · exact Ev.eq (Ev.ifp h11 (Ev.now _)) (if_pos ⟨h8, rfl, h11⟩).symm
      · exact Ev.eq (Ev.ifn h11 (Ev.now _)) (if_neg (fun q => h11 q.2.2)).symm
    · refine Ev.ifn h8 (Ev.eq (hno2 _ _ _ _) (six _ (.inr h8) ?_).symm)
      split <;> simp
  · rw [slots_not2 _ hl]
    have e3 : Q.timeN a b c e f (0, 0, 3) = (0, 0, 0, 0, 3) := by
      unfold Q.timeN
      rw [if_pos (.inr (.inr rfl))]
    have e4 : (((cutB z 43).length : Int) != 2) = true := by
      unfold cutB
      rw [List.length_map, bne_iff_ne]
      omega
    rw [e3, e4]
    exact hno _ _ _ _
theorem refparse_ev (a b c : Int) (s : ByteArray) (hs : s.size ≤ 200000) : Ev (fun k => horariumref10_Parse.f k a b c s) (parseB a b c s) := by
  unfold horariumref10_Parse.f parseB
  refine Ev.call (Ev.const (refgrid_eq a b c)) ?_
  by_cases hg : gridB a b c = true
  · refine Ev.ifp hg (Ev.call (refcut_ev s 32 (by omega)) ?_)
    have hsm := pieces_small s 32
    by_cases h3 : (Q.piecesA 32 [] (bytesOf s)).length = 3
    · obtain ⟨x, y, z, hp⟩ := three _ h3
      unfold Q.parseN
      rw [if_pos hg]
      have ec : cutB s 32 = [strOfNums x, strOfNums y, strOfNums z] := by unfold cutB; rw [hp]; rfl
      rw [hp] at hsm ⊢
      rw [ec]
      obtain ⟨hx, bx⟩ := hsm x (by simp)
      obtain ⟨hy, by_⟩ := hsm y (by simp)
      obtain ⟨hz, bz⟩ := hsm z (by simp)
      have zx : (strOfNums x).size ≤ 200000 := by rw [strOfNums_size]; omega
      have zy : (strOfNums y).size ≤ 200000 := by rw [strOfNums_size]; omega
      have zz : (strOfNums z).size ≤ 200000 := by rw [strOfNums_size]; omega
      have e := refparse_end a b c (strOfNums x) (strOfNums y) (strOfNums z) zz
      rw [bytes_str z bz] at e
      simp only
      rw [show Q.parseWN x = pwkB (strOfNums x) by unfold pwkB; rw [bytes_str x bx], show findD 127 1 y = pdB (strOfNums y) by unfold pdB; rw [bytes_str y by_]]
      exact Ev.ifp rfl (Ev.ifp (by simp only [List.map_cons, List.map_nil, List.length_cons, List.length_nil]; omega) (Ev.call (refpwk_ev (strOfNums x) zx) (Ev.ifp (by simp only [List.map_cons, List.map_nil, List.length_cons, List.length_nil]; omega) (Ev.call (refpd_ev (strOfNums y)) (Ev.ifp (by simp only [List.map_cons, List.map_nil, List.length_cons, List.length_nil]; omega) (Ev.call (refcut_ev (strOfNums z) 43 (by omega)) e))))))
    · rw [parse_not3 a b c hg _ h3]
      exact Ev.ifn (by unfold cutB; rw [List.length_map]; omega) (Ev.now _)
  · unfold Q.parseN
    rw [if_neg hg]
    exact Ev.ifn hg (Ev.now _)
end Go.Proofs.YtnagecfpbkffpaaDoor.P
end
section
namespace Go.Proofs.YtnagecfpbkffpaaDoor.Q
theorem join_byte (c : UInt8) (xs : List (List UInt8)) : nums (Lib.join xs [c]) = joinN (c.toNat : Int) (xs.map nums) := by
  match xs with
  | [] => rfl
  | [x] => simp [Lib.join_one, joinN]
  | x :: y :: r =>
    have h := join_byte c (y :: r)
    rw [Lib.join_cons] at h ⊢
    have e : Lib.joinTail [c] (y :: r) = [c] ++ y ++ Lib.joinTail [c] r := by simp [Lib.joinTail]
    rw [e]
    simp only [nums, List.map_append, List.map_cons, List.map_nil] at h ⊢
    simp only [joinN, List.append_assoc, h]
    rfl
end Go.Proofs.YtnagecfpbkffpaaDoor.Q
namespace Go.Proofs.YtnagecfpbkffpaaDoor.P
open Go.RowKit Go.Proofs.YtnagecfpbkffpaaDoorW.PrintWords
set_option linter.unusedVariables false
set_option linter.unusedSimpArgs false
def runS (r : Nat × Nat) : ByteArray := strOfNums (Q.runT r)
def joinR (l : List (Nat × Nat)) : ByteArray := strOfNums (Q.joinN 44 (l.map Q.runT))
def weeksB (w : Int) : ByteArray := strOfNums (Q.weeksL w.toNat)
theorem joinR_size (l : List (Nat × Nat)) (h : l.length ≤ 20) : (joinR l).size ≤ 840 := by
  unfold joinR
  rw [strOfNums_size]
  have h2 := Q.joinN_length 44 41 (l.map Q.runT) (by
    intro p hp
    obtain ⟨r, _, rfl⟩ := List.mem_map.1 hp
    exact Q.runT_length r)
  rw [List.length_map] at h2
  omega
theorem join_runs (l : List (Nat × Nat)) (h : l.length ≤ 20) : strings_Join.f (l.map runS) ⟨#[44]⟩ = some (joinR l) := by
  have e : Q.nums (Lib.join ((l.map runS).map (·.data.toList)) [44]) = Q.joinN 44 (l.map Q.runT) := by
    rw [Q.join_byte 44, List.map_map, List.map_map]
    show Q.joinN 44 _ = _
    congr 1
    apply List.map_congr_left
    intro r _
    show Q.nums (runS r).data.toList = _
    rw [nums_bytes]
    exact bytes_str _ (Q.runT_Bs r)
  have hs := joinR_size l h
  unfold joinR at hs
  rw [strOfNums_size, ← e] at hs
  have hs2 : (Lib.join ((l.map runS).map (·.data.toList)) [44]).length ≤ 840 := by
    unfold Q.nums at hs
    rwa [List.length_map] at hs
  unfold strings_Join.f
  rw [show (⟨#[44]⟩ : ByteArray).data.toList = [44] from rfl, if_pos ⟨by rw [List.length_map]; omega, by omega⟩]
  unfold joinR
  rw [← e, mk_str]
theorem bit_code (w i : Nat) (hw : w < 4294967296) (hi : i < 20) : Go.bits .and .u32 (shr .u32 (w : Int) (i : Int)) 1 = if Q.bitB w i then 1 else 0 := by
  have e : shr .u32 (w : Int) (i : Int) = ((w / 2 ^ i : Nat) : Int) := by
    unfold shr
    rw [show min (i : Int).toNat IntKind.u32.bits = i by show min (i : Int).toNat 32 = i; omega]
    norm_cast
  have hlt : w / 2 ^ i ≤ w := Nat.div_le_self _ _
  rw [e, show (1 : Int) = ((1 : Nat) : Int) from rfl, u32_and_nat _ 1 (by omega) (by omega), Nat.and_one_is_mod]
  unfold Q.bitB
  by_cases h : w / 2 ^ i % 2 = 1
  · rw [if_pos (decide_eq_true h), h]; try rfl
  · rw [if_neg (by simpa using h), show w / 2 ^ i % 2 = 0 by omega]; try rfl
theorem bit_ref (w i : Nat) (hw : w < 4294967296) (hi : i < 20) : Int.tmod (shr .u32 (w : Int) (i : Int)) 2 = if Q.bitB w i then 1 else 0 := by
  have e : shr .u32 (w : Int) (i : Int) = ((w / 2 ^ i : Nat) : Int) := by
    unfold shr
    rw [show min (i : Int).toNat IntKind.u32.bits = i by show min (i : Int).toNat 32 = i; omega]
    norm_cast
  rw [e]
  show (((w / 2 ^ i % 2 : Nat)) : Int) = _
  unfold Q.bitB
  by_cases h : w / 2 ^ i % 2 = 1
  · rw [if_pos (decide_eq_true h), h]; try rfl
  · rw [if_neg (by simpa using h), show w / 2 ^ i % 2 = 0 by omega]; try rfl
theorem runS_eq (a e : Nat) : runS (a, e) = if e > a then decB (a + 1) ++ (⟨#[45]⟩ ++ decB (e + 1)) else decB (a + 1) := by
  unfold runS Q.runT decB
  simp only
  by_cases h : e > a
  · rw [if_pos h, if_pos h, show (⟨#[45]⟩ : ByteArray) = strOfNums [45] from rfl, str_append, str_append]
    rfl
  · rw [if_neg h, if_neg h, List.append_nil]
theorem told_run (w : Int) (done : List (Nat × Nat)) (a e : Nat) (ha : a ≤ e) (he : e < 20) (hd : done.length < 20) {r : ByteArray} (k : Ev (fun k => clock_Weeks.l0 k w ((done ++ [(a, e)]).map runS) ((e : Int) + 1)) r) :
    Ev (fun k => clock_Weeks.j2 k w (done.map runS) (e : Int) (a : Int)) r := by
  refine Ev.step (fun k => clock_Weeks.j2.eq_2 ..) ?_
  have h1 := decB_size (a + 1)
  have h2 := decB_size (e + 1)
  rw [List.map_append, List.map_cons, List.map_nil, runS_eq] at k
  rw [w64_in (by omega) (by omega), w64_in (by omega) (by omega)]
  have p1 := print_eq ((a : Int) + 1) (by omega) (by omega)
  have p2 := print_eq ((e : Int) + 1) (by omega) (by omega)
  rw [show ((a : Int) + 1).toNat = a + 1 by omega] at p1
  rw [show ((e : Int) + 1).toNat = e + 1 by omega] at p2
  refine Ev.call (Ev.const p1) ?_
  by_cases h : e > a
  · rw [if_pos h] at k
    have h3 : ((⟨#[45]⟩ : ByteArray) ++ decB (e + 1)).size = 1 + (decB (e + 1)).size := ByteArray.size_append
    exact Ev.ifp (by omega) (Ev.call (Ev.const p2) (Ev.ifp (by omega) (Ev.ifp (by omega) (Ev.ifp (by rw [List.length_map]; omega) k))))
  · rw [if_neg h] at k
    exact Ev.ifn (by omega) (Ev.ifp (by rw [List.length_map]; omega) k)
theorem weeks_loop (w : Nat) (hw : w < 4294967296) : ∀ n,
    (∀ (i : Nat) (done : List (Nat × Nat)), i + n = 20 → done.length + n ≤ 20 → Ev (fun k => clock_Weeks.l0 k (w : Int) (done.map runS) (i : Int)) (joinR (done ++ Q.runsB (Q.bitB w) false n i))) ∧
    (∀ (i a : Nat) (done : List (Nat × Nat)), i + 1 + n = 20 → a ≤ i → done.length + n + 1 ≤ 20 → Ev (fun k => clock_Weeks.l1 k (w : Int) (done.map runS) (i : Int) (a : Int)) (joinR (done ++ (a, Q.endB (Q.bitB w) n (i + 1)) :: Q.runsB (Q.bitB w) true n (i + 1)))) := by
  intro n
  induction n with
  | zero =>
    have hl0 : ∀ (i : Nat) (done : List (Nat × Nat)), i = 20 → done.length ≤ 20 → Ev (fun k => clock_Weeks.l0 k (w : Int) (done.map runS) (i : Int)) (joinR done) := by
      intro i done hi hd
      exact Ev.step (fun k => clock_Weeks.l0.eq_2 ..) (Ev.ifn (by omega) (Ev.call (Ev.const (join_runs done hd)) (Ev.now _)))
    refine ⟨fun i done hi hd => ?_, fun i a done hi ha hd => ?_⟩
    · have h := hl0 i done (by omega) (by omega)
      rw [show Q.runsB (Q.bitB w) false 0 i = [] from by rw [Q.runsB], List.append_nil]
      exact h
    · rw [Q.runsB]
      show Ev _ (joinR (done ++ [(a, i + 1 - 1)]))
      rw [Nat.add_sub_cancel]
      refine Ev.step (fun k => clock_Weeks.l1.eq_2 ..) ?_
      rw [w64_in (by omega) (by omega)]
      refine Ev.ifn (by omega) (told_run w done a i ha (by omega) (by omega) ?_)
      exact hl0 (i + 1) _ (by omega) (by simp only [List.length_append, List.length_cons, List.length_nil]; omega)
  | succ n ih =>
    obtain ⟨ih1, ih2⟩ := ih
    have hl0 : ∀ (i : Nat) (done : List (Nat × Nat)), i + (n + 1) = 20 → done.length + (n + 1) ≤ 20 → Ev (fun k => clock_Weeks.l0 k (w : Int) (done.map runS) (i : Int)) (joinR (done ++ Q.runsB (Q.bitB w) false (n + 1) i)) := by
      intro i done hi hd
      refine Ev.step (fun k => clock_Weeks.l0.eq_2 ..) (Ev.ifp (by omega) (Ev.ifp (by omega) ?_))
      rw [bit_code w i hw (by omega), Q.runsB]
      by_cases hb : Q.bitB w i = true
      · rw [if_pos hb, if_pos hb, if_neg (by decide)]
        exact Ev.ifn (by decide) (ih2 i i done (by omega) (Nat.le_refl _) (by omega))
      · rw [if_neg hb, if_neg hb]
        refine Ev.ifp rfl ?_
        rw [w64_in (by omega) (by omega)]
        exact ih1 (i + 1) done (by omega) (by omega)
    refine ⟨hl0, fun i a done hi ha hd => ?_⟩
    refine Ev.step (fun k => clock_Weeks.l1.eq_2 ..) ?_
    rw [w64_in (by omega) (by omega)]
    refine Ev.ifp (by omega) (Ev.ifp (by omega) ?_)
    have hb2 := bit_code w (i + 1) hw (by omega)
    rw [show (((i + 1 : Nat)) : Int) = (i : Int) + 1 from rfl] at hb2
    rw [hb2, Q.endB, Q.runsB]
    by_cases hb : Q.bitB w (i + 1) = true
    · rw [if_pos hb, if_pos hb, if_pos hb, if_pos rfl]
      exact Ev.ifp rfl (ih2 (i + 1) a done (by omega) (by omega) (by omega))
    · rw [if_neg hb, if_neg hb, if_neg hb, Nat.add_sub_cancel]
      refine Ev.ifn (by decide) (told_run w done a i ha (by omega) (by omega) ?_)
      have h := hl0 (i + 1) (done ++ [(a, i)]) (by omega) (by simp only [List.length_append, List.length_cons, List.length_nil]; omega)
      rw [Q.runsB, if_neg hb, List.append_assoc] at h
      exact h
theorem weeks_ev (w : Int) (h0 : 0 ≤ w) (h1 : w ≤ 4294967295) : Ev (fun k => clock_Weeks.f k w) (weeksB w) := by
  have h := (weeks_loop w.toNat (by omega) 20).1 0 [] rfl (by simp)
  rw [show ((w.toNat : Nat) : Int) = w by omega] at h
  exact h
theorem ref_find (w : Nat) (hw : w < 4294967296) (t : ByteArray) (i : Nat) {r : ByteArray} : ∀ n e, e + 1 + n = 20 → Ev (fun k => horariumref10_Weeks.j3 k (w : Int) t (i : Int) ((Q.endB (Q.bitB w) n (e + 1) : Nat) : Int)) r → Ev (fun k => horariumref10_Weeks.l1 k (w : Int) t (i : Int) (e : Int)) r := by
  intro n
  induction n with
  | zero =>
    intro e he h
    refine Ev.step (fun k => horariumref10_Weeks.l1.eq_2 ..) ?_
    rw [w64_in (by omega) (by omega)]
    exact Ev.ifn (by omega) h
  | succ n ih =>
    intro e he h
    refine Ev.step (fun k => horariumref10_Weeks.l1.eq_2 ..) ?_
    rw [w64_in (by omega) (by omega), u64_in2 (by omega) (by omega)]
    refine Ev.ifp (by omega) (Ev.ifp (by omega) ?_)
    have hb2 := bit_ref w (e + 1) hw (by omega)
    rw [show (((e + 1 : Nat)) : Int) = (e : Int) + 1 from rfl] at hb2
    rw [hb2]
    rw [Q.endB] at h
    by_cases hb : Q.bitB w (e + 1) = true
    · rw [if_pos hb] at h ⊢
      exact Ev.ifp rfl (ih (e + 1) (by omega) h)
    · rw [if_neg hb, Nat.add_sub_cancel] at h
      rw [if_neg hb]
      exact Ev.ifn (by decide) h
theorem joinR_snoc (done : List (Nat × Nat)) (r : Nat × Nat) (h : done ≠ []) : joinR (done ++ [r]) = joinR done ++ ⟨#[44]⟩ ++ runS r := by
  unfold joinR runS
  rw [List.map_append, List.map_cons, List.map_nil, Q.joinN_snoc 44 _ _ (by simpa using h), show (⟨#[44]⟩ : ByteArray) = strOfNums [44] from rfl, str_append, str_append, List.append_assoc]
  rfl
theorem joinR_empty (done : List (Nat × Nat)) : (joinR done).toList = [] ↔ done = [] := by
  rw [empty_bytes]
  constructor
  · intro h
    rcases Classical.em (done = []) with h2 | h2
    · exact h2
    · exfalso
      unfold joinR at h
      rw [strOfNums_size] at h
      exact Q.joinN_pos 44 (done.map Q.runT) (by simpa using h2) (by
        intro p hp
        obtain ⟨r, _, rfl⟩ := List.mem_map.1 hp
        exact Q.runT_pos r) (List.eq_nil_of_length_eq_zero h)
  · rintro rfl; rfl
theorem ref_told (w : Int) (done : List (Nat × Nat)) (a e : Nat) (ha : a ≤ e) (he : e < 20) (hd : done.length < 20) {r : ByteArray} (k : Ev (fun k => horariumref10_Weeks.l0 k w (joinR (done ++ [(a, e)])) ((a : Int) + 1)) r) :
    Ev (fun k => horariumref10_Weeks.j3 k w (joinR done) (a : Int) (e : Int)) r := by
  have h1 := decB_size (a + 1)
  have h2 := decB_size (e + 1)
  have h3 := joinR_size done (by omega)
  have p1 := refprint_ev ((a : Int) + 1) (by omega) (by omega)
  have p2 := refprint_ev ((e : Int) + 1) (by omega) (by omega)
  rw [show ((a : Int) + 1).toNat = a + 1 by omega] at p1
  rw [show ((e : Int) + 1).toNat = e + 1 by omega] at p2
  have hj4 : ∀ t : ByteArray, t.size ≤ 841 → t ++ runS (a, e) = joinR (done ++ [(a, e)]) → Ev (fun k => horariumref10_Weeks.j4 k w t (a : Int) (e : Int)) r := by
    intro t ht hj
    refine Ev.step (fun k => horariumref10_Weeks.j4.eq_2 ..) ?_
    rw [w64_in (by omega) (by omega), w64_in (by omega) (by omega)]
    have s1 : (t ++ decB (a + 1)).size = t.size + (decB (a + 1)).size := ByteArray.size_append
    refine Ev.call p1 (Ev.ifp (by omega) ?_)
    rw [runS_eq] at hj
    by_cases h : e > a
    · rw [if_pos h] at hj
      have s2 : (t ++ decB (a + 1) ++ (⟨#[45]⟩ : ByteArray)).size = (t ++ decB (a + 1)).size + 1 := ByteArray.size_append
      refine Ev.ifp (by omega) (Ev.ifp (by omega) (Ev.call p2 (Ev.ifp (by omega) ?_)))
      rw [ByteArray.append_assoc, ByteArray.append_assoc, hj]
      exact k
    · rw [if_neg h] at hj
      refine Ev.ifn (by omega) ?_
      rw [hj]
      exact k
  refine Ev.step (fun k => horariumref10_Weeks.j3.eq_2 ..) ?_
  by_cases h0 : done = []
  · refine Ev.ifp ((joinR_empty done).2 h0) (hj4 _ (by omega) ?_)
    subst h0
    exact ByteArray.empty_append
  · refine Ev.ifn (fun h => h0 ((joinR_empty done).1 h)) (Ev.ifp (by omega) (hj4 _ ?_ (joinR_snoc done _ h0).symm))
    have s2 : (joinR done ++ (⟨#[44]⟩ : ByteArray)).size = (joinR done).size + 1 := ByteArray.size_append
    omega
theorem refweeks_loop (w : Nat) (hw : w < 4294967296) : ∀ (n i : Nat) (done : List (Nat × Nat)), i + n = 20 → done.length + n ≤ 20 →
    Ev (fun k => horariumref10_Weeks.l0 k (w : Int) (joinR done) (i : Int)) (joinR (done ++ Q.runsB (Q.bitB w) (decide (0 < i) && Q.bitB w (i - 1)) n i)) := by
  intro n
  induction n with
  | zero =>
    intro i done hi hd
    rw [Q.runsB, List.append_nil]
    exact Ev.step (fun k => horariumref10_Weeks.l0.eq_2 ..) (Ev.ifn (by omega) (Ev.now _))
  | succ n ih =>
    intro i done hi hd
    refine Ev.step (fun k => horariumref10_Weeks.l0.eq_2 ..) ?_
    rw [u64_in2 (by omega) (by omega), bit_ref w i hw (by omega), Q.runsB]
    refine Ev.ifp (by omega) (Ev.ifp (by omega) ?_)
    have ih2 := ih (i + 1) done (by omega) (by omega)
    rw [decide_eq_true (by omega : 0 < i + 1), Bool.true_and, Nat.add_sub_cancel] at ih2
    have hskip : Ev (fun k => horariumref10_Weeks.j1 k (w : Int) (joinR done) (i : Int) true) (joinR (done ++ Q.runsB (Q.bitB w) (Q.bitB w i) n (i + 1))) := by
      refine Ev.step (fun k => horariumref10_Weeks.j1.eq_2 ..) (Ev.ifp rfl ?_)
      rw [w64_in (by omega) (by omega)]
      exact ih2
    by_cases hb : Q.bitB w i = true
    · rw [if_pos hb, if_pos hb]
      rw [hb] at hskip
      have hnew : Ev (fun k => horariumref10_Weeks.j1 k (w : Int) (joinR done) (i : Int) false) (joinR (done ++ (i, Q.endB (Q.bitB w) n (i + 1)) :: Q.runsB (Q.bitB w) true n (i + 1))) := by
        refine Ev.step (fun k => horariumref10_Weeks.j1.eq_2 ..) (Ev.ifn (by decide) (ref_find w hw _ i n i (by omega) ?_))
        have g1 := Q.endB_ge (Q.bitB w) n (i + 1)
        have g2 := Q.endB_lt (Q.bitB w) n (i + 1) (by omega)
        refine ref_told w done i _ (by omega) (by omega) (by omega) ?_
        have ih3 := ih (i + 1) (done ++ [(i, Q.endB (Q.bitB w) n (i + 1))]) (by omega) (by simp only [List.length_append, List.length_cons, List.length_nil]; omega)
        rw [decide_eq_true (by omega : 0 < i + 1), Bool.true_and, Nat.add_sub_cancel, hb, List.append_assoc] at ih3
        exact ih3
      refine Ev.ifn (by decide) ?_
      by_cases hi0 : 0 < i
      · refine Ev.ifp (by omega) ?_
        rw [w64_in (by omega) (by omega), u64_in2 (by omega) (by omega)]
        refine Ev.ifp (by omega) ?_
        have hb2 := bit_ref w (i - 1) hw (by omega)
        rw [show (((i - 1 : Nat)) : Int) = (i : Int) - 1 by omega] at hb2
        rw [hb2, decide_eq_true hi0, Bool.true_and]
        by_cases hp : Q.bitB w (i - 1) = true
        · rw [hp]; exact hskip
        · rw [if_neg hp, if_neg hp]; exact hnew
      · refine Ev.ifn (by omega) ?_
        rw [decide_eq_false hi0, Bool.false_and, if_neg (by decide)]
        exact hnew
    · rw [if_neg hb, if_neg hb]
      have hf : Q.bitB w i = false := by simpa using hb
      rw [hf] at hskip
      exact Ev.ifp rfl hskip
theorem refweeks_ev (w : Int) (h0 : 0 ≤ w) (h1 : w ≤ 4294967295) : Ev (fun k => horariumref10_Weeks.f k w) (weeksB w) := by
  have h := refweeks_loop w.toNat (by omega) 20 0 [] rfl (by simp)
  rw [show ((w.toNat : Nat) : Int) = w by omega] at h
  exact h
theorem weeksB_size (w : Int) : (weeksB w).size ≤ 840 := joinR_size _ (Q.runsB_length _ _ _ _)
end Go.Proofs.YtnagecfpbkffpaaDoor.P
end
section
namespace Go.Proofs.YtnagecfpbkffpaaDoor.P
open Go.RowKit Go.Proofs.YtnagecfpbkffpaaDoorW.PrintWords
set_option linter.unusedVariables false
set_option linter.unusedSimpArgs false
def timeB (a b c w d s l : Int) : ByteArray := if rightB a b c w d s l = true then strOfNums (Q.timeL w d s l) else ⟨#[]⟩
theorem cat_size {x y : ByteArray} {n m : Nat} (hx : x.size ≤ n) (hy : y.size ≤ m) : (x ++ y).size ≤ n + m := by
  rw [ByteArray.size_append]; omega
theorem one_size (c : UInt8) : (⟨#[c]⟩ : ByteArray).size ≤ 1 := Nat.le_refl _
theorem fits {x y : ByteArray} {n m : Nat} (hx : x.size ≤ n) (hy : y.size ≤ m) (h : n + m ≤ 9223372036854775807) : x.size + y.size ≤ 9223372036854775807 := Nat.le_trans (Nat.add_le_add hx hy) h
theorem fits1 {x : ByteArray} {n : Nat} (hx : x.size ≤ n) (h : n + 1 ≤ 9223372036854775807) : x.size + 1 ≤ 9223372036854775807 := Nat.le_trans (Nat.add_le_add_right hx 1) h
theorem time_cat (w d s l : Int) : weeksB w ++ ⟨#[32]⟩ ++ strOfNums (daysL d 7) ++ ⟨#[32]⟩ ++ decB s.toNat ++ ⟨#[43]⟩ ++ decB l.toNat = strOfNums (Q.timeL w d s l) := by
  unfold weeksB decB Q.timeL
  rw [show (⟨#[32]⟩ : ByteArray) = strOfNums [32] from rfl, show (⟨#[43]⟩ : ByteArray) = strOfNums [43] from rfl]
  simp only [str_append, List.append_assoc, Q.joinN, List.cons_append, List.nil_append]
theorem time_join {W D S L : Nat → Option ByteArray} (w d s l : Int) (hW : Ev W (weeksB w)) (hD : Ev D (strOfNums (daysL d 7))) (hS : Ev S (decB s.toNat)) (hL : Ev L (decB l.toNat)) :
    Ev (fun k => (W k).bind fun t319 => (if t319.size + 1 ≤ 9223372036854775807 then ((D k).bind fun t320 => (if (t319 ++ (⟨#[32]⟩ : ByteArray)).size + t320.size ≤ 9223372036854775807 then (if ((t319 ++ (⟨#[32]⟩ : ByteArray)) ++ t320).size + 1 ≤ 9223372036854775807 then ((S k).bind fun t321 => (if (((t319 ++ (⟨#[32]⟩ : ByteArray)) ++ t320) ++ (⟨#[32]⟩ : ByteArray)).size + t321.size ≤ 9223372036854775807 then (if ((((t319 ++ (⟨#[32]⟩ : ByteArray)) ++ t320) ++ (⟨#[32]⟩ : ByteArray)) ++ t321).size + 1 ≤ 9223372036854775807 then ((L k).bind fun t322 => (if (((((t319 ++ (⟨#[32]⟩ : ByteArray)) ++ t320) ++ (⟨#[32]⟩ : ByteArray)) ++ t321) ++ (⟨#[43]⟩ : ByteArray)).size + t322.size ≤ 9223372036854775807 then (some ((((((t319 ++ (⟨#[32]⟩ : ByteArray)) ++ t320) ++ (⟨#[32]⟩ : ByteArray)) ++ t321) ++ (⟨#[43]⟩ : ByteArray)) ++ t322)) else (none))) else (none)) else (none))) else (none)) else (none))) else (none))) (strOfNums (Q.timeL w d s l)) := by
  have s0 := weeksB_size w
  have s1 := daysL_size d 7
  have s2 := decB_size s.toNat
  have s3 := decB_size l.toNat
  have a1 := cat_size s0 (one_size 32)
  have a2 := cat_size a1 s1
  have a3 := cat_size a2 (one_size 32)
  have a4 := cat_size a3 s2
  have a5 := cat_size a4 (one_size 43)
  refine Ev.call hW (Ev.ifp (fits1 s0 (by decide)) (Ev.call hD (Ev.ifp (fits a1 s1 (by decide)) (Ev.ifp (fits1 a2 (by decide)) (Ev.call hS (Ev.ifp (fits a3 s2 (by decide)) (Ev.ifp (fits1 a4 (by decide)) (Ev.call hL (Ev.ifp (fits a5 s3 (by decide)) ?_)))))))))
  exact Ev.eq (Ev.now _) (time_cat w d s l)
theorem print_ev (a b c w d s l : Int) (hw0 : 0 ≤ w) (hw1 : w ≤ 4294967295) (hd0 : 0 ≤ d) (hd1 : d ≤ 255) : Ev (fun k => clock_Print.f k a b c w d s l) (timeB a b c w d s l) := by
  unfold clock_Print.f timeB
  refine Ev.call (Ev.const (right_eq a b c w d s l hw0 hw1 hd0 hd1)) ?_
  by_cases hr : rightB a b c w d s l = true
  · rw [if_pos hr]
    obtain ⟨_, h1, h2, h3, h4, _⟩ := Q.right_bounds hr
    exact Ev.ifp hr (time_join w d s l (weeks_ev w hw0 hw1) (Ev.const (days_eq d hd0 hd1)) (Ev.const (print_eq s h1 (by omega))) (Ev.const (print_eq l (by omega) (by omega))))
  · rw [if_neg hr]
    exact Ev.ifn hr (Ev.now _)
theorem refprint_time_ev (a b c w d s l : Int) (hw0 : 0 ≤ w) (hw1 : w ≤ 4294967295) (hd0 : 0 ≤ d) (hd1 : d ≤ 255) (hl : l ≤ 9223372036854775807) : Ev (fun k => horariumref10_Print.f k a b c w d s l) (timeB a b c w d s l) := by
  unfold horariumref10_Print.f timeB
  refine Ev.call (refright_ev a b c w d s l hw0 hw1 hd0 hd1 hl) ?_
  by_cases hr : rightB a b c w d s l = true
  · rw [if_pos hr]
    obtain ⟨_, h1, h2, h3, h4, _⟩ := Q.right_bounds hr
    exact Ev.ifp hr (time_join w d s l (refweeks_ev w hw0 hw1) (refdays_ev d hd0 hd1) (refprint_ev s h1 (by omega)) (refprint_ev l (by omega) (by omega)))
  · rw [if_neg hr]
    exact Ev.ifn hr (Ev.now _)
end Go.Proofs.YtnagecfpbkffpaaDoor.P
end
section
namespace Go.Proofs.YtnagecfpbkffpaaDoor.P
open Go.RowKit Go.Proofs.YtnagecfpbkffpaaDoorW.PrintWords
set_option linter.unusedVariables false
set_option linter.unusedSimpArgs false
def dayText : ByteArray := ⟨#[109, 116, 119, 104, 102, 115, 117]⟩
def ofB (a b c m : Int) : Int × Int × Int × Bool := if gridB a b c = true ∧ 0 ≤ m ∧ m < a * b * c then (m / c / b, m / c % b, m % c, true) else (0, 0, 0, false)
theorem mul_bound {a b m n : Int} (h0 : 0 ≤ a) (h1 : a ≤ m) (h2 : 0 ≤ b) (h3 : b ≤ n) : 0 ≤ a * b ∧ a * b ≤ m * n := by
  refine ⟨Int.mul_nonneg h0 h2, Int.mul_le_mul h1 h3 h2 (by omega)⟩
theorem all_bound {a b c : Int} (h : gridB a b c = true) : 1 ≤ a ∧ 1 ≤ b ∧ b ≤ 7 ∧ 1 ≤ c ∧ c ≤ 96 ∧ 0 ≤ a * b ∧ a * b ≤ 140 ∧ 0 ≤ a * b * c ∧ a * b * c ≤ 13440 := by
  simp only [gridB, decide_eq_true_eq] at h
  have h1 := mul_bound (show 0 ≤ a by omega) (show a ≤ 20 by omega) (show 0 ≤ b by omega) (show b ≤ 7 by omega)
  have h2 := mul_bound h1.1 (show a * b ≤ 140 by omega) (show 0 ≤ c by omega) (show c ≤ 96 by omega)
  generalize a * b = x at *
  generalize x * c = y at *
  omega
theorem of_end (a b c m : Int) (h : gridB a b c = true) (h0 : 0 ≤ m) (h1 : m < a * b * c) : (wrap64 (Int.tdiv (wrap64 (Int.tdiv m c)) b), Int.tmod (wrap64 (Int.tdiv m c)) b, Int.tmod m c, true) = ofB a b c m := by
  have hb := all_bound h
  unfold ofB
  rw [if_pos ⟨h, h0, h1⟩]
  have d0 : 0 ≤ m / c := Int.ediv_nonneg h0 (by omega)
  have d1 : m / c ≤ m := Int.ediv_le_self c h0
  have e0 : 0 ≤ m / c / b := Int.ediv_nonneg d0 (by omega)
  have e1 : m / c / b ≤ m / c := Int.ediv_le_self b d0
  rw [Int.tdiv_eq_ediv_of_nonneg h0, w64_in (x := m / c) (by omega) (by omega), Int.tdiv_eq_ediv_of_nonneg d0, w64_in (x := m / c / b) (by omega) (by omega), Int.tmod_eq_emod_of_nonneg d0, Int.tmod_eq_emod_of_nonneg h0]
theorem of_eq (a b c m : Int) : when_Of.f a b c m = some (ofB a b c m) := by
  unfold when_Of.f
  rw [grid_eq, Option.bind_some]
  by_cases h : gridB a b c = true
  · have hb := all_bound h
    rw [if_pos h]
    by_cases h0 : m < 0
    · rw [if_pos h0, ofB, if_neg (fun k => by omega)]
    · rw [if_neg h0, w64_in (x := a * b) (by omega) (by omega), w64_in (x := a * b * c) (by omega) (by omega)]
      by_cases h1 : m ≥ a * b * c
      · rw [if_pos h1, ofB, if_neg (fun k => by omega)]
      · rw [if_neg h1, if_neg (by omega), if_neg (by omega), of_end a b c m h (by omega) (by omega)]
  · rw [if_neg h, ofB, if_neg (fun k => h k.1)]
theorem refof_eq (a b c m : Int) : horariumref09_Of.f a b c m = some (ofB a b c m) := by
  unfold horariumref09_Of.f horariumref09_All.f
  rw [refgrid_eq, Option.bind_some]
  by_cases h0 : m < 0
  · rw [if_pos h0, ofB, if_neg (fun k => by omega)]
  · rw [if_neg h0]
    by_cases h : gridB a b c = true
    · have hb := all_bound h
      rw [if_pos h, w64_in (x := a * b) (by omega) (by omega), w64_in (x := a * b * c) (by omega) (by omega), Option.bind_some]
      by_cases h1 : m ≥ a * b * c
      · rw [if_pos h1, ofB, if_neg (fun k => by omega)]
      · rw [if_neg h1, if_neg (by omega), if_neg (by omega), of_end a b c m h (by omega) (by omega)]
    · rw [if_neg h, Option.bind_some, if_pos (by omega), ofB, if_neg (fun k => h k.1)]
def momB (a b c m : Int) : ByteArray := if (ofB a b c m).2.2.2 = true then decB ((ofB a b c m).1 + 1).toNat ++ ⟨#[32]⟩ ++ dayText.extract (ofB a b c m).2.1.toNat ((ofB a b c m).2.1 + 1).toNat ++ ⟨#[32]⟩ ++ decB (ofB a b c m).2.2.1.toNat else ⟨#[]⟩
theorem of_bounds (a b c m : Int) (h : (ofB a b c m).2.2.2 = true) : 0 ≤ (ofB a b c m).1 ∧ (ofB a b c m).1 ≤ 13440 ∧ 0 ≤ (ofB a b c m).2.1 ∧ (ofB a b c m).2.1 ≤ 6 ∧ 0 ≤ (ofB a b c m).2.2.1 ∧ (ofB a b c m).2.2.1 ≤ 96 := by
  unfold ofB at h ⊢
  by_cases hc : gridB a b c = true ∧ 0 ≤ m ∧ m < a * b * c
  · rw [if_pos hc]
    obtain ⟨hg, h0, h1⟩ := hc
    have hb := all_bound hg
    have d0 : 0 ≤ m / c := Int.ediv_nonneg h0 (by omega)
    have d1 : m / c ≤ m := Int.ediv_le_self c h0
    have e0 : 0 ≤ m / c / b := Int.ediv_nonneg d0 (by omega)
    have e1 : m / c / b ≤ m / c := Int.ediv_le_self b d0
    have f0 := Int.emod_nonneg (m / c) (show b ≠ 0 by omega)
    have f1 := Int.emod_lt_of_pos (m / c) (show 0 < b by omega)
    have g0 := Int.emod_nonneg m (show c ≠ 0 by omega)
    have g1 := Int.emod_lt_of_pos m (show 0 < c by omega)
    simp only
    omega
  · rw [if_neg hc] at h
    cases h
theorem mom_join {A B : Nat → Option ByteArray} (x : Int × Int × Int × Bool) (h0 : 0 ≤ x.2.1) (h1 : x.2.1 ≤ 6) (hA : Ev A (decB (x.1 + 1).toNat)) (hB : Ev B (decB x.2.2.1.toNat)) :
    Ev (fun k => (A k).bind fun t205 => (if t205.size + 1 ≤ 9223372036854775807 then (if 0 ≤ x.2.1 then (if x.2.1 ≤ (wrap64 (x.2.1 + 1)) then (if (wrap64 (x.2.1 + 1)) ≤ 7 then (if (t205 ++ (⟨#[32]⟩ : ByteArray)).size + ((⟨#[109, 116, 119, 104, 102, 115, 117]⟩ : ByteArray).extract (x.2.1 : Int).toNat ((wrap64 (x.2.1 + 1)) : Int).toNat).size ≤ 9223372036854775807 then (if ((t205 ++ (⟨#[32]⟩ : ByteArray)) ++ ((⟨#[109, 116, 119, 104, 102, 115, 117]⟩ : ByteArray).extract (x.2.1 : Int).toNat ((wrap64 (x.2.1 + 1)) : Int).toNat)).size + 1 ≤ 9223372036854775807 then ((B k).bind fun t206 => (if (((t205 ++ (⟨#[32]⟩ : ByteArray)) ++ ((⟨#[109, 116, 119, 104, 102, 115, 117]⟩ : ByteArray).extract (x.2.1 : Int).toNat ((wrap64 (x.2.1 + 1)) : Int).toNat)) ++ (⟨#[32]⟩ : ByteArray)).size + t206.size ≤ 9223372036854775807 then (some ((((t205 ++ (⟨#[32]⟩ : ByteArray)) ++ ((⟨#[109, 116, 119, 104, 102, 115, 117]⟩ : ByteArray).extract (x.2.1 : Int).toNat ((wrap64 (x.2.1 + 1)) : Int).toNat)) ++ (⟨#[32]⟩ : ByteArray)) ++ t206)) else (none))) else (none)) else (none)) else (none)) else (none)) else (none)) else (none)))
      (decB (x.1 + 1).toNat ++ ⟨#[32]⟩ ++ dayText.extract x.2.1.toNat (x.2.1 + 1).toNat ++ ⟨#[32]⟩ ++ decB x.2.2.1.toNat) := by
  rw [w64_in (by omega) (by omega)]
  have s0 := decB_size (x.1 + 1).toNat
  have s2 := decB_size x.2.2.1.toNat
  have s1 : (dayText.extract x.2.1.toNat (x.2.1 + 1).toNat).size ≤ 7 := by
    rw [ByteArray.size_extract, show dayText.size = 7 from rfl]
    omega
  have a1 := cat_size s0 (one_size 32)
  have a2 := cat_size a1 s1
  have a3 := cat_size a2 (one_size 32)
  exact Ev.call hA (Ev.ifp (fits1 s0 (by decide)) (Ev.ifp h0 (Ev.ifp (by omega) (Ev.ifp (by omega) (Ev.ifp (fits a1 s1 (by decide)) (Ev.ifp (fits1 a2 (by decide)) (Ev.call hB (Ev.ifp (fits a3 s2 (by decide)) (Ev.now _)))))))))
theorem mom_ev (a b c m : Int) : Ev (fun _ => clock_Moment.f a b c m) (momB a b c m) := by
  unfold clock_Moment.f momB
  refine Ev.call (Ev.const (of_eq a b c m)) ?_
  by_cases h : (ofB a b c m).2.2.2 = true
  · have hb := of_bounds a b c m h
    refine Ev.eq (Ev.ifp h ?_) (if_pos h).symm
    rw [w64_in (x := (ofB a b c m).1 + 1) (by omega) (by omega)]
    exact mom_join (ofB a b c m) hb.2.2.1 hb.2.2.2.1 (Ev.const (print_eq _ (by omega) (by omega))) (Ev.const (print_eq _ hb.2.2.2.2.1 (by omega)))
  · exact Ev.eq (Ev.ifn h (Ev.now _)) (if_neg h).symm
theorem refmom_ev (a b c m : Int) : Ev (fun k => horariumref10_Moment.f k a b c m) (momB a b c m) := by
  unfold horariumref10_Moment.f momB
  refine Ev.call (Ev.const (refof_eq a b c m)) ?_
  by_cases h : (ofB a b c m).2.2.2 = true
  · have hb := of_bounds a b c m h
    refine Ev.eq (Ev.ifp h ?_) (if_pos h).symm
    rw [w64_in (x := (ofB a b c m).1 + 1) (by omega) (by omega)]
    exact mom_join (ofB a b c m) hb.2.2.1 hb.2.2.2.1 (refprint_ev _ (by omega) (by omega)) (refprint_ev _ hb.2.2.2.2.1 (by omega))
  · exact Ev.eq (Ev.ifn h (Ev.now _)) (if_neg h).symm
end Go.Proofs.YtnagecfpbkffpaaDoor.P
end
section
set_option linter.unusedVariables false
set_option linter.unusedSimpArgs false
namespace Go.Proofs.YtnagecfpbkffpaaDoor.Pure
open Go.RowKit Go.Proofs.YtnagecfpbkffpaaDoor.P Go.Proofs.YtnagecfpbkffpaaDoorW.PrintWords
theorem ClockTells (a b c w d s l : Int) (t : ByteArray) (m : Int) (ha : (Lit.int .i64 a).wf = true) (hb : (Lit.int .i64 b).wf = true) (hc : (Lit.int .i64 c).wf = true) (hw : (Lit.int .u32 w).wf = true) (hd : (Lit.int .u8 d).wf = true) (hs : (Lit.int .i64 s).wf = true) (hl : (Lit.int .i64 l).wf = true) (ht : t.size ≤ 140737488351232) (hm : (Lit.int .i64 m).wf = true) : ∃ k, horariumlaw10_ClockTells.f k a b c w d s l t m = some true := by
  have hw := u32_wf hw
  have hd := u8_wf hd
  have hl := i64_wf hl
  refine Ev.rounds ?_
  unfold horariumlaw10_ClockTells.f
  by_cases hlen : (t.size : Int) > 200
  · exact Ev.ifp hlen heads_ev
  · refine Ev.ifn hlen (Ev.call (parse_ev a b c t (by omega)) (Ev.call (refparse_ev a b c t (by omega)) (Ev.call (print_ev a b c w d s l hw.1 hw.2 hd.1 hd.2) (Ev.call (refprint_time_ev a b c w d s l hw.1 hw.2 hd.1 hd.2 hl.2) ?_))))
    refine Ev.ifp rfl (Ev.ifp (by simp) (Ev.ifp rfl (Ev.call (mom_ev a b c m) (Ev.call (refmom_ev a b c m) (Ev.ifp rfl heads_ev)))))
end Go.Proofs.YtnagecfpbkffpaaDoor.Pure
end
