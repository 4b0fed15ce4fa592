import Derived.Test.YtnagecfpbkffpaaDoorPEv
import Derived.Test.YtnagecfpbkffpaaDoorQLine
namespace Go.Proofs.YtnagecfpbkffpaaDoor.P
open Go.RowKit Go.Proofs.YtnagecfpbkffpaaDoorW.PrintWords
set_option linter.unusedVariables false
set_option linter.unusedSimpArgs false
theorem nums_bytes (s : ByteArray) : Q.nums s.data.toList = bytesOf s := rfl
theorem mk_str (l : List UInt8) : strOfNums (Q.nums l) = ⟨l.toArray⟩ := by
  unfold strOfNums Q.nums
  rw [List.map_map]
  have : ((fun n : Int => UInt8.ofNat n.toNat) ∘ fun b : UInt8 => (b.toNat : Int)) = id := by
    funext b
    simp
  rw [this, List.map_id]
theorem str_append (a b : List Int) : strOfNums a ++ strOfNums b = strOfNums (a ++ b) := by
  apply ByteArray.ext
  rw [ByteArray.data_append]
  apply Array.ext'
  simp [strOfNums]
end Go.Proofs.YtnagecfpbkffpaaDoor.P
