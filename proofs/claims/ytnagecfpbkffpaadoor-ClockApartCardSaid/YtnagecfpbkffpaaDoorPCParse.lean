import Derived.Test.YtnagecfpbkffpaaDoorPCTime
import Derived.Test.YtnagecfpbkffpaaDoorPx9
import Derived.Test.YtnagecfpbkffpaaDoorPx14
namespace Go.Proofs.YtnagecfpbkffpaaDoor.P
open Go.RowKit Go.Proofs.YtnagecfpbkffpaaDoorW.PrintWords
set_option linter.unusedVariables false
set_option linter.unusedSimpArgs false
def parseB (a b c : Int) (s : ByteArray) : Int × Int × Int × Int × Int := Q.parseN a b c (bytesOf s)
end Go.Proofs.YtnagecfpbkffpaaDoor.P
