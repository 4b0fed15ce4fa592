import Derived.Test.YtnagecfpbkffpaaDoorPBase
import Derived.Test.YtnagecfpbkffpaaDoorPx11
namespace Go.Proofs.YtnagecfpbkffpaaDoor.P
open Go.RowKit Go.Proofs.YtnagecfpbkffpaaDoorW.PrintWords
set_option linter.unusedVariables false
set_option linter.unusedSimpArgs false
def cutB (s : ByteArray) (c : Int) : List ByteArray := (Q.piecesA c [] (bytesOf s)).map strOfNums
end Go.Proofs.YtnagecfpbkffpaaDoor.P
