import Derived.Test.YtnagecfpbkffpaaDoorPx0
import Derived.Test.YtnagecfpbkffpaaDoorPShelf
namespace Go.Proofs.YtnagecfpbkffpaaDoor.P
open Go.RowKit Go.Proofs.YtnagecfpbkffpaaDoorW.PrintWords Go.Proofs.YtnagecfpbkffpaaDoorW.PrintLast Go.Proofs.YtnagecfpbkffpaaDoorW.PrintMore
set_option linter.unusedVariables false
def strings_IndexByte.f (a0 : ByteArray) (a1 : Int) : Option Int := some (Lib.indexByte a0.data.toList a1.toNat.toUInt8)
theorem strings_IndexByte.calls (a0 : ByteArray) (a1 : Int) (r : Int) (w : World) (h : strings_IndexByte.f a0 a1 = some r) :
    Calls Tryd.prog 39 #[.string a0, .int .u8 a1] w fun e w' => e = .returned (.int .i64 r) ∧ Drawn0 w w' := by
  obtain rfl : Lib.indexByte a0.data.toList a1.toNat.toUInt8 = r := by simpa [strings_IndexByte.f] using h
  refine (Tryd.strings_IndexByte a0 a1 w).mono ?_
  rintro e w' ⟨rfl, rfl⟩
  exact ⟨rfl, Drawn0.refl _⟩
def stringslite_Index.f (a0 : ByteArray) (a1 : ByteArray) : Option Int := if a1.size = 1 then some (Lib.indexByte a0.data.toList (bt a1 0).toNat.toUInt8) else none
theorem one_byte (a : ByteArray) (h : a.size = 1) : a = ⟨#[(bt a 0).toNat.toUInt8]⟩ := by
  obtain ⟨⟨l⟩⟩ := a
  match l, h with
  | [b], _ =>
    have : (bt ⟨⟨[b]⟩⟩ 0).toNat.toUInt8 = b := by
      unfold bt
      rw [dif_pos (show Int.toNat 0 < ByteArray.size ⟨⟨[b]⟩⟩ from Nat.zero_lt_one)]
      simp [ByteArray.getElem_eq_getElem_data]
    rw [this]
theorem stringslite_Index.calls (a0 : ByteArray) (a1 : ByteArray) (r : Int) (w : World) (h : stringslite_Index.f a0 a1 = some r) :
    Calls Tryd.prog 69 #[.string a0, .string a1] w fun e w' => e = .returned (.int .i64 r) ∧ Drawn0 w w' := by
  unfold stringslite_Index.f at h
  by_cases h1 : a1.size = 1
  · rw [if_pos h1] at h
    obtain rfl : Lib.indexByte a0.data.toList (bt a1 0).toNat.toUInt8 = r := by simpa using h
    have e1 := one_byte a1 h1
    generalize (bt a1 0).toNat.toUInt8 = b at e1 ⊢
    subst e1
    refine (Tryd.stringslite_Index_one a0 b w).mono ?_
    rintro e w' ⟨rfl, rfl⟩
    exact ⟨rfl, Drawn0.refl _⟩
  · rw [if_neg h1] at h
    exact absurd h (by simp)
def strings_Join.f (l0 : List ByteArray) (a1 : ByteArray) : Option ByteArray := if l0.length ≤ 140737488355328 ∧ (Lib.join (l0.map (·.data.toList)) a1.data.toList).length ≤ 140737488355328 then some ⟨(Lib.join (l0.map (·.data.toList)) a1.data.toList).toArray⟩ else none
theorem strings_Join.calls (A0 : Option Addr) (c0 : Nat) (l0 : List ByteArray) (a1 : ByteArray) (r : ByteArray) (w : World) (hr0 : Kd.C Kd.string w A0 l0.length l0) (hc0 : l0.length ≤ c0) (h : strings_Join.f l0 a1 = some r) :
    Calls Tryd.prog 38 #[.slice A0 l0.length c0, .string a1] w fun e w' => e = .returned (.string r) ∧ Below w.heap.size w w' := by
  unfold strings_Join.f at h
  by_cases hl : l0.length ≤ 140737488355328 ∧ (Lib.join (l0.map (·.data.toList)) a1.data.toList).length ≤ 140737488355328
  · rw [if_pos hl] at h
    obtain rfl : (⟨(Lib.join (l0.map (·.data.toList)) a1.data.toList).toArray⟩ : ByteArray) = r := by simpa using h
    cases l0 with
    | nil =>
      refine (Tryd.strings_Join_none A0 c0 a1 w).mono ?_
      rintro e w' ⟨rfl, rfl⟩
      exact ⟨by simp [Lib.join_nil], Below.refl _ _⟩
    | cons x xs =>
      have hat := fun (i : Int) (h0 : 0 ≤ i) (h1 : i < ((x :: xs).length : Nat)) => Kd.at_string hr0 i h0 h1
      obtain ⟨ad, rfl, h0⟩ := hat 0 (by omega) (by simp)
      have hb := World.block_lt_of_cell? w _ h0
      obtain ⟨bk, o, sp⟩ := ad
      have hsp : sp = none := by
        cases sp with
        | none => rfl
        | some q =>
          exfalso
          rw [Int.toNat_zero] at h0
          have ha : (⟨bk, o, some q⟩ : Addr).add 0 = ⟨bk, o, some q⟩ := by simp [Addr.add]
          rw [ha] at h0
          unfold World.cell? at h0
          split at h0 <;> simp at h0
      subst hsp
      rw [add_at] at hb
      refine (Tryd.strings_Join bk o c0 (x :: xs) a1 w ?_ hb hl.1 hc0 hl.2).mono fun e w' h => h
      intro j y hj
      have hjl : j < (x :: xs).length := (List.getElem?_eq_some_iff.1 hj).1
      obtain ⟨ad', he, hcell⟩ := hat j (by omega) (by omega)
      injection he with he
      subst he
      rw [add_at, Int.toNat_natCast] at hcell
      rw [hcell]
      simp [rdOf, hj]
  · rw [if_neg hl] at h
    exact absurd h (by simp)
end Go.Proofs.YtnagecfpbkffpaaDoor.P
