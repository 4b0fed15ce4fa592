import Derived.Test.YtnagecfpbkffpaaDoorPHeads10
import Derived.Test.YtnagecfpbkffpaaDoorPCParse
import Derived.Test.YtnagecfpbkffpaaDoorPCPrint
namespace Go.Proofs.YtnagecfpbkffpaaDoor.P
open Go.RowKit Go.Proofs.YtnagecfpbkffpaaDoorW.PrintWords
theorem timeB_full (a b c w d s l : Int) (h : ¬ (timeB a b c w d s l).toList = []) : rightB a b c w d s l = true := by
  cases hr : rightB a b c w d s l with
  | true => rfl
  | false =>
    exfalso
    apply h
    unfold timeB
    rw [hr, if_neg (by decide), empty_bytes]
    rfl
theorem parse_time {a b c w d s l : Int} (h : rightB a b c w d s l = true) (hw : 0 ≤ w) (hd : 0 ≤ d) (hd1 : d ≤ 255) : parseB a b c (timeB a b c w d s l) = (w, d, s, l, 0) := by
  unfold parseB timeB
  rw [if_pos h, bytes_str _ (time_Bs w d s l hd hd1)]
  exact Q.time_back h hw hd
end Go.Proofs.YtnagecfpbkffpaaDoor.P
