import Derived.Test.YtnagecfpbkffpaaDoorPx17
import Derived.Test.YtnagecfpbkffpaaDoorPHeads10
import Derived.Test.YtnagecfpbkffpaaDoorPCDays
namespace Go.Proofs.YtnagecfpbkffpaaDoor.Pure
open Go.RowKit Go.Proofs.YtnagecfpbkffpaaDoor.P Go.Proofs.YtnagecfpbkffpaaDoorW.PrintWords
theorem ClockDays (d : Int) (s : ByteArray) (hd : (Lit.int .u8 d).wf = true) (hs : s.size ≤ 140737488351232) : ∃ k, horariumlaw10_ClockDays.f k d s = some true := by
  have h := u8_wf hd
  refine Ev.rounds ?_
  unfold horariumlaw10_ClockDays.f
  by_cases hl : (s.size : Int) > 200
  · exact Ev.ifp hl heads_ev
  · refine Ev.ifn hl (Ev.call (pd_ev s (by omega)) (Ev.call (refpd_ev s) (Ev.call (Ev.const (days_eq d h.1 h.2)) (Ev.call (refdays_ev d h.1 h.2) ?_))))
    exact Ev.ifp rfl (Ev.ifp rfl (Ev.ifp rfl heads_ev))
end Go.Proofs.YtnagecfpbkffpaaDoor.Pure
