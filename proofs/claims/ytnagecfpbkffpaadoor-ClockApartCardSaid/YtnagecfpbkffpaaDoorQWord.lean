namespace Go.Proofs.YtnagecfpbkffpaaDoor.Q
def nums (l : List UInt8) : List Int := l.map fun b => (b.toNat : Int)
def bytes (l : List Int) : List UInt8 := l.map fun c => c.toNat.toUInt8
end Go.Proofs.YtnagecfpbkffpaaDoor.Q
