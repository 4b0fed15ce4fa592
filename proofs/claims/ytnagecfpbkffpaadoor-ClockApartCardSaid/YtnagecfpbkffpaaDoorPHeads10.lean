import Derived.Test.YtnagecfpbkffpaaDoorPEv
import Derived.Test.YtnagecfpbkffpaaDoorPx10
namespace Go.Proofs.YtnagecfpbkffpaaDoor.P
open Go.RowKit Go.Proofs.YtnagecfpbkffpaaDoorW.PrintWords
theorem heads_eq : horariumlaw10_heads.f 60 = some true := by decide +kernel
theorem heads_ev : Ev (fun k => (horariumlaw10_heads.f k).bind fun t => some t) true := Ev.call (Ev.of horariumlaw10_heads.mono heads_eq) (Ev.now _)
theorem u8_wf {a : Int} (h : (Lit.int .u8 a).wf = true) : 0 ≤ a ∧ a ≤ 255 := by
  have h2 : IntKind.u8.min ≤ a ∧ a ≤ IntKind.u8.max := by simpa [Lit.wf] using h
  rw [show IntKind.u8.min = 0 by decide, show IntKind.u8.max = 255 by decide] at h2
  exact h2
theorem u32_wf {a : Int} (h : (Lit.int .u32 a).wf = true) : 0 ≤ a ∧ a ≤ 4294967295 := by
  have h2 : IntKind.u32.min ≤ a ∧ a ≤ IntKind.u32.max := by simpa [Lit.wf] using h
  rw [show IntKind.u32.min = 0 by decide, show IntKind.u32.max = 4294967295 by decide] at h2
  exact h2
end Go.Proofs.YtnagecfpbkffpaaDoor.P
