import Derived.Test.YtnagecfpbkffpaaDoorPx18
import Derived.Test.YtnagecfpbkffpaaDoorPHeads10
import Derived.Test.YtnagecfpbkffpaaDoorPCWeeks
import Derived.Test.YtnagecfpbkffpaaDoorPCWeeksLoop
import Derived.Test.YtnagecfpbkffpaaDoorPCDays
namespace Go.Proofs.YtnagecfpbkffpaaDoor.P
open Go.RowKit Go.Proofs.YtnagecfpbkffpaaDoorW.PrintWords
theorem weeksL_Bs (w : Nat) : Q.Bs (Q.weeksL w) := Q.joinN_bytes 44 (by omega) _ (by
  intro p hp
  obtain ⟨r, _, rfl⟩ := List.mem_map.1 hp
  exact Q.runT_Bs r)
theorem bytes_weeks (w : Int) : bytesOf (weeksB w) = Q.weeksL w.toNat := bytes_str _ (weeksL_Bs _)
theorem weeks_round (w : Int) : pwkB (weeksB w) = if w.toNat % 1048576 = 0 then (0, 3) else (((w.toNat % 1048576 : Nat) : Int), 0) := by
  unfold pwkB
  rw [bytes_weeks, Q.weeks_back]
theorem days_round (d : Int) (h0 : 0 ≤ d) (h1 : d ≤ 255) : pdB (strOfNums (daysL d 7)) = if d.toNat % 128 = 0 then (0, 3) else (((d.toNat % 128 : Nat) : Int), 0) := by
  have h := pd_back ⟨d.toNat, by omega⟩
  have e : ((d.toNat : Nat) : Int) = d := by omega
  simp only [e] at h
  have h2 := pd_ev (strOfNums (daysL d 7)) (by
    rw [strOfNums_size]
    have h3 : ∀ c : Fin 256, (daysL (c.1 : Int) 7).length ≤ 7 := by decide +kernel
    have h4 := h3 ⟨d.toNat, by omega⟩
    simp only [e] at h4
    omega)
  exact Ev.one h2 (Ev.of (fun k => clock_ParseDays.mono _ k) h)
end Go.Proofs.YtnagecfpbkffpaaDoor.P
namespace Go.Proofs.YtnagecfpbkffpaaDoor.Pure
open Go.RowKit Go.Proofs.YtnagecfpbkffpaaDoor.P Go.Proofs.YtnagecfpbkffpaaDoorW.PrintWords
theorem ClockRuns (w d : Int) (hw : (Lit.int .u32 w).wf = true) (hd : (Lit.int .u8 d).wf = true) : ∃ k, horariumlaw10_ClockRuns.f k w d = some true := by
  have h := u32_wf hw
  have h' := u8_wf hd
  have hs := weeksB_size w
  refine Ev.rounds ?_
  unfold horariumlaw10_ClockRuns.f
  refine Ev.call (weeks_ev w h.1 h.2) (Ev.call (pwk_ev _ (by omega)) (Ev.call (Ev.const (days_eq d h'.1 h'.2)) (Ev.call (pd_ev _ ?_) ?_)))
  · rw [strOfNums_size]
    have h3 : ∀ c : Fin 256, (daysL (c.1 : Int) 7).length ≤ 7 := by decide +kernel
    have h4 := h3 ⟨d.toNat, by omega⟩
    have e : ((d.toNat : Nat) : Int) = d := by omega
    simp only [e] at h4
    omega
  · rw [weeks_round, days_round d h'.1 h'.2]
    have hdays : ∀ {f : Nat → Option Bool}, Ev f true → Ev (fun k => if (d * 2) % 256 = 0 then (if (if d.toNat % 128 = 0 then ((0 : Int), (3 : Int)) else (((d.toNat % 128 : Nat) : Int), 0)).2 = 3 then f k else none) else (if (if d.toNat % 128 = 0 then ((0 : Int), (3 : Int)) else (((d.toNat % 128 : Nat) : Int), 0)).2 = 0 then (if (if d.toNat % 128 = 0 then ((0 : Int), (3 : Int)) else (((d.toNat % 128 : Nat) : Int), 0)).1 = (d * 2) % 256 / 2 then f k else none) else none)) true := by
      intro f hf
      by_cases h0 : d.toNat % 128 = 0
      · rw [if_pos h0]
        exact Ev.ifp (by omega) (Ev.ifp rfl hf)
      · rw [if_neg h0]
        exact Ev.ifn (by omega) (Ev.ifp rfl (Ev.ifp (by simp only; omega) hf))
    by_cases h0 : w.toNat % 1048576 = 0
    · rw [if_pos h0]
      exact Ev.ifp (by omega) (Ev.ifp rfl (hdays heads_ev))
    · rw [if_neg h0]
      exact Ev.ifn (by omega) (Ev.ifp rfl (Ev.ifp (by simp only; omega) (hdays heads_ev)))
end Go.Proofs.YtnagecfpbkffpaaDoor.Pure
