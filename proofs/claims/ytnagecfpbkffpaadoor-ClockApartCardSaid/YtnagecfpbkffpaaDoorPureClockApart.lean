import Derived.Test.YtnagecfpbkffpaaDoorPx18
import Derived.Test.YtnagecfpbkffpaaDoorPCBack
set_option linter.unusedVariables false
set_option linter.unusedSimpArgs false
namespace Go.Proofs.YtnagecfpbkffpaaDoor.Pure
open Go.RowKit Go.Proofs.YtnagecfpbkffpaaDoor.P Go.Proofs.YtnagecfpbkffpaaDoorW.PrintWords
theorem ClockApart (a b c w d s l w' d' s' l' : Int) (ha : (Lit.int .i64 a).wf = true) (hb : (Lit.int .i64 b).wf = true) (hc : (Lit.int .i64 c).wf = true) (hw : (Lit.int .u32 w).wf = true) (hd : (Lit.int .u8 d).wf = true) (hs : (Lit.int .i64 s).wf = true) (hl : (Lit.int .i64 l).wf = true) (hw' : (Lit.int .u32 w').wf = true) (hd' : (Lit.int .u8 d').wf = true) (hs' : (Lit.int .i64 s').wf = true) (hl' : (Lit.int .i64 l').wf = true) : ∃ k, horariumlaw10_ClockApart.f k a b c w d s l w' d' s' l' = some true := by
  have hw := u32_wf hw
  have hd := u8_wf hd
  have hw' := u32_wf hw'
  have hd' := u8_wf hd'
  refine Ev.rounds ?_
  unfold horariumlaw10_ClockApart.f
  refine Ev.call (print_ev a b c w d s l hw.1 hw.2 hd.1 hd.2) (Ev.call (print_ev a b c w' d' s' l' hw'.1 hw'.2 hd'.1 hd'.2) ?_)
  by_cases hE : (timeB a b c w d s l).toList = []
  · exact Ev.ifp hE heads_ev
  · refine Ev.ifn hE (Ev.ifp ?_ heads_ev)
    have hr := timeB_full a b c w d s l hE
    by_cases he : (timeB a b c w d s l).toList = (timeB a b c w' d' s' l').toList
    · have hr' := timeB_full a b c w' d' s' l' (by rw [← he]; exact hE)
      have h1 := parse_time hr hw.1 hd.1 hd.2
      rw [(toList_inj _ _).1 he, parse_time hr' hw'.1 hd'.1 hd'.2] at h1
      simp only [Prod.mk.injEq, and_true] at h1
      obtain ⟨rfl, rfl, rfl, rfl⟩ := h1
      simp
    · have hne : ¬ (w = w' ∧ d = d' ∧ s = s' ∧ l = l') := by
        rintro ⟨rfl, rfl, rfl, rfl⟩
        exact he rfl
      rw [beq_eq_false_iff_ne.2 he]
      by_cases e1 : w = w'
      · by_cases e2 : d = d'
        · by_cases e3 : s = s'
          · have e4 : ¬ l = l' := fun e4 => hne ⟨e1, e2, e3, e4⟩
            simp [e1, e2, e3, e4]
          · simp [e1, e2, e3]
        · simp [e1, e2]
      · simp [e1]
end Go.Proofs.YtnagecfpbkffpaaDoor.Pure
