-- laid by gen.py (this project's wrapper of the kit's printer) out of the translation. Not trusted: Lean checks it.
import Derived.Test.YtnnpolnpgghkgaaDoorProg
import Derived.Below
import Derived.Deep.Draws
import Derived.Deep.AppendLies
import Derived.Maps.AppendAt
import Derived.OwnWalk
import Derived.Laws.BytesArg
import Derived.Laws.MakeOwn
import Derived.Laws.OwnMore
import Derived.Deep.OwnRows
import Derived.Tactics
import Derived.Lib.ConvBytes
import Derived.Laws.Slices
import Derived.WalkKit
import Derived.KernelRfl
import Derived.RowKit3
import Derived.Deep.LoopGhost
import Derived.Deep.QuietTactic
import Derived.BigQuiet
import Derived.WideLaws
import Derived.Deep.DeepCutAuto
import Derived.Deep.CutBlock
import Derived.Deep.RegionHeld3
import Derived.Laws.Rows
import Derived.Lib.AppendStr
import Derived.ArgAppend
import Derived.Laws.IdiomCopy
import Derived.OrdersHeld
import Derived.Laws.BitsLemmas
import Derived.RowKit
import Derived.WalkMore
import Derived.Test.YtnnpolnpgghkgaaDoorPMore
import Derived.Test.YtnnpolnpgghkgaaDoorWWords
import Derived.Test.YtnnpolnpgghkgaaDoorWLast
import Derived.Test.YtnnpolnpgghkgaaDoorWTab
import Derived.Test.YtnnpolnpgghkgaaDoorWFour
import Derived.Test.YtnnpolnpgghkgaaDoorWQPut
import Derived.Test.YtnnpolnpgghkgaaDoorWApart
import Derived.Test.YtnnpolnpgghkgaaDoorWArr
import Derived.Test.YtnnpolnpgghkgaaDoorWZeros
import Derived.Test.YtnnpolnpgghkgaaDoorWFoot
import Derived.Test.YtnnpolnpgghkgaaDoorWKept
import Derived.Test.YtnnpolnpgghkgaaDoorWShare
import Derived.Test.YtnnpolnpgghkgaaDoorWN
import Derived.Test.YtnnpolnpgghkgaaDoorWFootNe
import Derived.Test.YtnnpolnpgghkgaaDoorWAt
import Derived.Test.YtnnpolnpgghkgaaDoorWEqStruct
import Derived.Test.YtnnpolnpgghkgaaDoorWRepsOne
import Derived.Test.YtnnpolnpgghkgaaDoorWInv
import Derived.Test.YtnnpolnpgghkgaaDoorWInvWords
import Derived.Test.YtnnpolnpgghkgaaDoorWGuard
import Derived.Test.YtnnpolnpgghkgaaDoorWNEv
import Derived.Test.YtnnpolnpgghkgaaDoorWMore
namespace Go.Proofs.YtnnpolnpgghkgaaDoor.P
open Go.RowKit Go.Proofs.YtnnpolnpgghkgaaDoorW.PrintWords Go.Proofs.YtnnpolnpgghkgaaDoorW.PrintLast Go.Proofs.YtnnpolnpgghkgaaDoorW.PrintMore
attribute [local go_sem] max2_int min2_int max_two min_two max_three min_three max_four min_four   -- for this text's walks alone
set_option linter.unusedVariables false
set_option linter.unusedSimpArgs false



def errW : Option Int → Value
  | none => .nilIface
  | some c => .iface 0 (.int .i64 c)
theorem errW_none : errW none = .nilIface := rfl
theorem errW_some (c : Int) : errW (some c) = .iface 0 (.int .i64 c) := rfl

theorem info5 : (Tryd.prog.info? 5).map (fun i => (i.zero, i.size, i.bytes)) = some (some (.int .u8 0), 1, 1) := by kernel_rfl
theorem info9 : (Tryd.prog.info? 9).map (fun i => (i.zero, i.size, i.bytes)) = some (some (.string ⟨#[]⟩), 1, 16) := by kernel_rfl
-- the values' own types

end Go.Proofs.YtnnpolnpgghkgaaDoor.P
