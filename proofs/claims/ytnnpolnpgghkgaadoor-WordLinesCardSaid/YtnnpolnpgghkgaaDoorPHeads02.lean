import Derived.Test.YtnnpolnpgghkgaaDoorPWord
import Derived.Test.YtnnpolnpgghkgaaDoorPx4
/-! The chapter's examples. -/
namespace Go.Proofs.YtnnpolnpgghkgaaDoor.P
open Go.RowKit Go.Proofs.YtnnpolnpgghkgaaDoorW.PrintWords
theorem heads_eq : horariumlaw02_heads.f 40 = some true := by decide +kernel
theorem heads_ev : Ev (fun k => (horariumlaw02_heads.f k).bind fun t => some t) true := Ev.call (Ev.of horariumlaw02_heads.mono heads_eq) (Ev.now _)
end Go.Proofs.YtnnpolnpgghkgaaDoor.P
