import Derived.Test.YtnagecfpbkffpaaDoorPNum
import Derived.Test.YtnagecfpbkffpaaDoorQWeeks
import Derived.Laws.BitsAllLaws
import Derived.Test.YtnagecfpbkffpaaDoorPx3
import Derived.Test.YtnagecfpbkffpaaDoorPx15
namespace Go.Proofs.YtnagecfpbkffpaaDoor.Q
theorem join_byte (c : UInt8) (xs : List (List UInt8)) : nums (Lib.join xs [c]) = joinN (c.toNat : Int) (xs.map nums) := by
  match xs with
  | [] => rfl
  | [x] => simp [Lib.join_one, joinN]
  | x :: y :: r =>
    have h := join_byte c (y :: r)
    rw [Lib.join_cons] at h ⊢
    have e : Lib.joinTail [c] (y :: r) = [c] ++ y ++ Lib.joinTail [c] r := by simp [Lib.joinTail]
    rw [e]
    simp only [nums, List.map_append, List.map_cons, List.map_nil] at h ⊢
    simp only [joinN, List.append_assoc, h]
    rfl
end Go.Proofs.YtnagecfpbkffpaaDoor.Q
namespace Go.Proofs.YtnagecfpbkffpaaDoor.P
open Go.RowKit Go.Proofs.YtnagecfpbkffpaaDoorW.PrintWords
set_option linter.unusedVariables false
set_option linter.unusedSimpArgs false
def runS (r : Nat × Nat) : ByteArray := strOfNums (Q.runT r)
def joinR (l : List (Nat × Nat)) : ByteArray := strOfNums (Q.joinN 44 (l.map Q.runT))
def weeksB (w : Int) : ByteArray := strOfNums (Q.weeksL w.toNat)
theorem joinR_size (l : List (Nat × Nat)) (h : l.length ≤ 20) : (joinR l).size ≤ 840 := by
  unfold joinR
  rw [strOfNums_size]
  have h2 := Q.joinN_length 44 41 (l.map Q.runT) (by
    intro p hp
    obtain ⟨r, _, rfl⟩ := List.mem_map.1 hp
    exact Q.runT_length r)
  rw [List.length_map] at h2
  omega
theorem join_runs (l : List (Nat × Nat)) (h : l.length ≤ 20) : strings_Join.f (l.map runS) ⟨#[44]⟩ = some (joinR l) := by
  have e : Q.nums (Lib.join ((l.map runS).map (·.data.toList)) [44]) = Q.joinN 44 (l.map Q.runT) := by
    rw [Q.join_byte 44, List.map_map, List.map_map]
    show Q.joinN 44 _ = _
    congr 1
    apply List.map_congr_left
    intro r _
    show Q.nums (runS r).data.toList = _
    rw [nums_bytes]
    exact bytes_str _ (Q.runT_Bs r)
  have hs := joinR_size l h
  unfold joinR at hs
  rw [strOfNums_size, ← e] at hs
  have hs2 : (Lib.join ((l.map runS).map (·.data.toList)) [44]).length ≤ 840 := by
    unfold Q.nums at hs
    rwa [List.length_map] at hs
  unfold strings_Join.f
  rw [show (⟨#[44]⟩ : ByteArray).data.toList = [44] from rfl, if_pos ⟨by rw [List.length_map]; omega, by omega⟩]
  unfold joinR
  rw [← e, mk_str]
theorem bit_code (w i : Nat) (hw : w < 4294967296) (hi : i < 20) : Go.bits .and .u32 (shr .u32 (w : Int) (i : Int)) 1 = if Q.bitB w i then 1 else 0 := by
  have e : shr .u32 (w : Int) (i : Int) = ((w / 2 ^ i : Nat) : Int) := by
    unfold shr
    rw [show min (i : Int).toNat IntKind.u32.bits = i by show min (i : Int).toNat 32 = i; omega]
    norm_cast
  have hlt : w / 2 ^ i ≤ w := Nat.div_le_self _ _
  rw [e, show (1 : Int) = ((1 : Nat) : Int) from rfl, u32_and_nat _ 1 (by omega) (by omega), Nat.and_one_is_mod]
  unfold Q.bitB
  by_cases h : w / 2 ^ i % 2 = 1
  · rw [if_pos (decide_eq_true h), h]; try rfl
  · rw [if_neg (by simpa using h), show w / 2 ^ i % 2 = 0 by omega]; try rfl
theorem runS_eq (a e : Nat) : runS (a, e) = if e > a then decB (a + 1) ++ (⟨#[45]⟩ ++ decB (e + 1)) else decB (a + 1) := by
  unfold runS Q.runT decB
  simp only
  by_cases h : e > a
  · rw [if_pos h, if_pos h, show (⟨#[45]⟩ : ByteArray) = strOfNums [45] from rfl, str_append, str_append]
    rfl
  · rw [if_neg h, if_neg h, List.append_nil]
theorem told_run (w : Int) (done : List (Nat × Nat)) (a e : Nat) (ha : a ≤ e) (he : e < 20) (hd : done.length < 20) {r : ByteArray} (k : Ev (fun k => clock_Weeks.l0 k w ((done ++ [(a, e)]).map runS) ((e : Int) + 1)) r) :
    Ev (fun k => clock_Weeks.j2 k w (done.map runS) (e : Int) (a : Int)) r := by
  refine Ev.step (fun k => clock_Weeks.j2.eq_2 ..) ?_
  have h1 := decB_size (a + 1)
  have h2 := decB_size (e + 1)
  rw [List.map_append, List.map_cons, List.map_nil, runS_eq] at k
  rw [w64_in (by omega) (by omega), w64_in (by omega) (by omega)]
  have p1 := print_eq ((a : Int) + 1) (by omega) (by omega)
  have p2 := print_eq ((e : Int) + 1) (by omega) (by omega)
  rw [show ((a : Int) + 1).toNat = a + 1 by omega] at p1
  rw [show ((e : Int) + 1).toNat = e + 1 by omega] at p2
  refine Ev.call (Ev.const p1) ?_
  by_cases h : e > a
  · rw [if_pos h] at k
    have h3 : ((⟨#[45]⟩ : ByteArray) ++ decB (e + 1)).size = 1 + (decB (e + 1)).size := ByteArray.size_append
    exact Ev.ifp (by omega) (Ev.call (Ev.const p2) (Ev.ifp (by omega) (Ev.ifp (by omega) (Ev.ifp (by rw [List.length_map]; omega) k))))
  · rw [if_neg h] at k
    exact Ev.ifn (by omega) (Ev.ifp (by rw [List.length_map]; omega) k)
theorem weeks_loop (w : Nat) (hw : w < 4294967296) : ∀ n,
    (∀ (i : Nat) (done : List (Nat × Nat)), i + n = 20 → done.length + n ≤ 20 → Ev (fun k => clock_Weeks.l0 k (w : Int) (done.map runS) (i : Int)) (joinR (done ++ Q.runsB (Q.bitB w) false n i))) ∧
    (∀ (i a : Nat) (done : List (Nat × Nat)), i + 1 + n = 20 → a ≤ i → done.length + n + 1 ≤ 20 → Ev (fun k => clock_Weeks.l1 k (w : Int) (done.map runS) (i : Int) (a : Int)) (joinR (done ++ (a, Q.endB (Q.bitB w) n (i + 1)) :: Q.runsB (Q.bitB w) true n (i + 1)))) := by
  intro n
  induction n with
  | zero =>
    have hl0 : ∀ (i : Nat) (done : List (Nat × Nat)), i = 20 → done.length ≤ 20 → Ev (fun k => clock_Weeks.l0 k (w : Int) (done.map runS) (i : Int)) (joinR done) := by
      intro i done hi hd
      exact Ev.step (fun k => clock_Weeks.l0.eq_2 ..) (Ev.ifn (by omega) (Ev.call (Ev.const (join_runs done hd)) (Ev.now _)))
    refine ⟨fun i done hi hd => ?_, fun i a done hi ha hd => ?_⟩
    · have h := hl0 i done (by omega) (by omega)
      rw [show Q.runsB (Q.bitB w) false 0 i = [] from by rw [Q.runsB], List.append_nil]
      exact h
    · rw [Q.runsB]
      show Ev _ (joinR (done ++ [(a, i + 1 - 1)]))
      rw [Nat.add_sub_cancel]
      refine Ev.step (fun k => clock_Weeks.l1.eq_2 ..) ?_
      rw [w64_in (by omega) (by omega)]
      refine Ev.ifn (by omega) (told_run w done a i ha (by omega) (by omega) ?_)
      exact hl0 (i + 1) _ (by omega) (by simp only [List.length_append, List.length_cons, List.length_nil]; omega)
  | succ n ih =>
    obtain ⟨ih1, ih2⟩ := ih
    have hl0 : ∀ (i : Nat) (done : List (Nat × Nat)), i + (n + 1) = 20 → done.length + (n + 1) ≤ 20 → Ev (fun k => clock_Weeks.l0 k (w : Int) (done.map runS) (i : Int)) (joinR (done ++ Q.runsB (Q.bitB w) false (n + 1) i)) := by
      intro i done hi hd
      refine Ev.step (fun k => clock_Weeks.l0.eq_2 ..) (Ev.ifp (by omega) (Ev.ifp (by omega) ?_))
      rw [bit_code w i hw (by omega), Q.runsB]
      by_cases hb : Q.bitB w i = true
      · rw [if_pos hb, if_pos hb, if_neg (by decide)]
        exact Ev.ifn (by decide) (ih2 i i done (by omega) (Nat.le_refl _) (by omega))
      · rw [if_neg hb, if_neg hb]
        refine Ev.ifp rfl ?_
        rw [w64_in (by omega) (by omega)]
        exact ih1 (i + 1) done (by omega) (by omega)
    refine ⟨hl0, fun i a done hi ha hd => ?_⟩
    refine Ev.step (fun k => clock_Weeks.l1.eq_2 ..) ?_
    rw [w64_in (by omega) (by omega)]
    refine Ev.ifp (by omega) (Ev.ifp (by omega) ?_)
    have hb2 := bit_code w (i + 1) hw (by omega)
    rw [show (((i + 1 : Nat)) : Int) = (i : Int) + 1 from rfl] at hb2
    rw [hb2, Q.endB, Q.runsB]
    by_cases hb : Q.bitB w (i + 1) = true
    · rw [if_pos hb, if_pos hb, if_pos hb, if_pos rfl]
      exact Ev.ifp rfl (ih2 (i + 1) a done (by omega) (by omega) (by omega))
    · rw [if_neg hb, if_neg hb, if_neg hb, Nat.add_sub_cancel]
      refine Ev.ifn (by decide) (told_run w done a i ha (by omega) (by omega) ?_)
      have h := hl0 (i + 1) (done ++ [(a, i)]) (by omega) (by simp only [List.length_append, List.length_cons, List.length_nil]; omega)
      rw [Q.runsB, if_neg hb, List.append_assoc] at h
      exact h
theorem weeks_ev (w : Int) (h0 : 0 ≤ w) (h1 : w ≤ 4294967295) : Ev (fun k => clock_Weeks.f k w) (weeksB w) := by
  have h := (weeks_loop w.toNat (by omega) 20).1 0 [] rfl (by simp)
  rw [show ((w.toNat : Nat) : Int) = w by omega] at h
  exact h
theorem weeksB_size (w : Int) : (weeksB w).size ≤ 840 := joinR_size _ (Q.runsB_length _ _ _ _)
end Go.Proofs.YtnagecfpbkffpaaDoor.P
