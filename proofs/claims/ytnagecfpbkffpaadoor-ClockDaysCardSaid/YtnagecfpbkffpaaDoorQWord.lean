namespace Go.Proofs.YtnagecfpbkffpaaDoor.Q
def bytes (l : List Int) : List UInt8 := l.map fun c => c.toNat.toUInt8
end Go.Proofs.YtnagecfpbkffpaaDoor.Q
