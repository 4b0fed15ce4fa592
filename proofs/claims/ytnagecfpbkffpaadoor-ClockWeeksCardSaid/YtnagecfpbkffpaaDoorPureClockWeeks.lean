import Derived.Test.YtnagecfpbkffpaaDoorPx17
import Derived.Test.YtnagecfpbkffpaaDoorPHeads10
import Derived.Test.YtnagecfpbkffpaaDoorPCWeeks
import Derived.Test.YtnagecfpbkffpaaDoorPCWeeksLoop
namespace Go.Proofs.YtnagecfpbkffpaaDoor.Pure
open Go.RowKit Go.Proofs.YtnagecfpbkffpaaDoor.P Go.Proofs.YtnagecfpbkffpaaDoorW.PrintWords
theorem ClockWeeks (w : Int) (s : ByteArray) (hw : (Lit.int .u32 w).wf = true) (hs : s.size ≤ 140737488351232) : ∃ k, horariumlaw10_ClockWeeks.f k w s = some true := by
  have h := u32_wf hw
  refine Ev.rounds ?_
  unfold horariumlaw10_ClockWeeks.f
  by_cases hl : (s.size : Int) > 200
  · exact Ev.ifp hl heads_ev
  · refine Ev.ifn hl (Ev.call (pwk_ev s (by omega)) (Ev.call (refpwk_ev s (by omega)) (Ev.call (weeks_ev w h.1 h.2) (Ev.call (refweeks_ev w h.1 h.2) ?_))))
    exact Ev.ifp rfl (Ev.ifp rfl (Ev.ifp rfl heads_ev))
end Go.Proofs.YtnagecfpbkffpaaDoor.Pure
