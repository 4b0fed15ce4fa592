import Derived.Test.YtnnpolnpgghkgaaDoorPx0
import Derived.Test.YtnnpolnpgghkgaaDoorPShelf
import Derived.Test.YtnnpolnpgghkgaaDoorPBuilder
/-! word.Text: by hand, over the library's Builder. -/
namespace Go.Proofs.YtnnpolnpgghkgaaDoor.P
open Go.RowKit Go.Proofs.YtnnpolnpgghkgaaDoorW.PrintWords Go.Proofs.YtnnpolnpgghkgaaDoorW.PrintLast Go.Proofs.YtnnpolnpgghkgaaDoorW.PrintMore
set_option linter.unusedVariables false
/-- the lines, each followed by a line feed -/
def textL (l : List ByteArray) : List UInt8 := (l.map fun s => s.data.toList ++ [10]).flatten
theorem textL_take (l : List ByteArray) (k : Nat) (h : k < l.length) : textL (l.take (k + 1)) = textL (l.take k) ++ (l[k]'h).data.toList ++ [10] := by
  unfold textL
  rw [List.take_succ_eq_append_getElem h]
  simp only [List.map_append, List.map_cons, List.map_nil, List.flatten_append, List.flatten_cons, List.flatten_nil, List.append_nil, List.append_assoc]
theorem textL_le (l : List ByteArray) (k : Nat) : (textL (l.take k)).length ≤ (textL l).length := by
  conv => rhs; rw [← List.take_append_drop k l]
  unfold textL
  simp only [List.map_append, List.flatten_append, List.length_append]
  omega
def word_Text.f (l0 : List ByteArray) : Option ByteArray := if (textL l0).length ≤ 140737488355328 then some ⟨(textL l0).toArray⟩ else none
set_option maxHeartbeats 1600000 in
theorem word_Text.calls (A0 : Option Addr) (c0 : Nat) (l0 : List ByteArray) (r : ByteArray) (w : World) (hr0 : Kd.C Kd.string w A0 l0.length l0) (hc0 : l0.length ≤ c0) (h : word_Text.f l0 = some r) :
    Calls Tryd.prog 9 #[.slice A0 l0.length c0] w fun e w' => e = .returned (.string r) ∧ Below w.heap.size w w' := by
  unfold word_Text.f at h
  by_cases hl : (textL l0).length ≤ 140737488355328
  · rw [if_pos hl] at h
    obtain rfl : (⟨(textL l0).toArray⟩ : ByteArray) = r := by simpa using h
    clear h
    have HR0 := Aside0.mk hr0
    have HL := Aside0.mk hl
    have HM := Aside0.mk (Kd.C_max hr0)
    clear hr0 hl hc0
    go_enter Tryd.func9, Tryd.ntmps9
    go_wp2_with fail
    go_loopw [8] (fun i wr => ∃ k : Nat, k ≤ l0.length ∧ i = .int .i64 k ∧ Aside0 (Lib.IsBuilder 44 5 w.heap.size w.heap.size (Lib.byteCells (textL (l0.take k))) wr) ∧ Aside0 (Below w.heap.size w wr)) (fun i _ => l0.length - (intOf i).toNat)
    case atStart => exact ⟨0, Nat.zero_le _, rfl, ⟨.inl ⟨Nat.le_refl _, .slice none 0 0, heap_alloc_new w _, own_nil _ _ _ _, by simp [Value.ownBlock]⟩⟩, ⟨(Below.refl _ _).alloc (Nat.le_refl _) _⟩⟩
    case round =>
      obtain ⟨k, hk, rfl, HB, HW⟩ := hrel
      have hBw : w.heap.size ≤ wr.heap.size := HW.out.size
      by_cases hlt : k < l0.length
      · have hq := Kd.C_below HR0.out HW.out
        obtain ⟨ad, rfl, hc⟩ := Kd.at_string hq (k : Int) (by omega) (by omega)
        rw [Int.toNat_natCast, show rdOf ByteArray.empty l0 (k : Int) = l0[k] by simp [rdOf, hlt]] at hc
        have hst := textL_take l0 k hlt
        have hle := textL_le l0 (k + 1)
        rw [hst] at hle
        simp only [List.length_append, List.length_cons, List.length_nil] at hle
        have hL := HL.out
        have hsz : l0[k].data.toList.length = l0[k].size := data_length _
        have hnext : Lib.byteCells (textL (l0.take k)) ++ Lib.strCells l0[k] ++ [.int .u8 10] = Lib.byteCells (textL (l0.take (k + 1))) := by
          rw [hst, Lib.strCells_eq, ← Lib.byteCells_append]
          exact (Lib.byteCells_append _ [10]).symm
        have h1l := Aside0.mk (show (Lib.byteCells (textL (l0.take k))).length + l0[k].size ≤ 140737488355328 by rw [Lib.byteCells_length]; omega)
        have h2l := Aside0.mk (show (Lib.byteCells (textL (l0.take k)) ++ Lib.strCells l0[k]).length + 1 ≤ 140737488355328 by rw [List.length_append, Lib.strCells_eq, Lib.byteCells_length, Lib.byteCells_length]; omega)
        have HN := Aside0.mk hnext
        have hm := HM.out
        clear hst hle hL hsz hnext hq
        go_wp2_with fail
        refine (write_string w.heap.size w.heap.size _ l0[k] wr HB.out h1l.out hBw).mono ?_
        rintro e w1 ⟨rfl, h1, b1⟩
        have H1 := Aside0.mk (Or.inr h1 : Lib.IsBuilder 44 5 w.heap.size w.heap.size _ w1)
        have B1 := Aside0.mk (HW.out.trans b1)
        have hBw1 : w.heap.size ≤ w1.heap.size := B1.out.size
        clear h1 b1
        go_wp2_with fail
        refine (write_byte w.heap.size w.heap.size _ 10 w1 H1.out h2l.out hBw1).mono ?_
        rintro e w2 ⟨rfl, h2, b2⟩
        rw [HN.out] at h2
        have H2 := Aside0.mk (Or.inr h2 : Lib.IsBuilder 44 5 w.heap.size w.heap.size _ w2)
        have B2 := Aside0.mk (B1.out.trans b2)
        clear h2 b2
        go_wp2_with fail
        go_roundw
        case rel => exact ⟨k + 1, by omega, by go_num, H2, B2⟩
        case measure => simp [intOf]; omega
      · have hke : k = l0.length := by omega
        subst hke
        have hall : l0.take l0.length = l0 := List.take_length
        rw [hall] at HB
        clear hall
        go_wp2_with fail
        refine (Tryd.Builder_String_any w.heap.size w.heap.size (textL l0) wr HB.out hBw).mono ?_
        rintro e w1 ⟨rfl, b1⟩
        have B1 := Aside0.mk (HW.out.trans b1)
        clear b1
        go_wp2_with fail
        go_ret
        exact ⟨rfl, B1.out⟩
  · rw [if_neg hl] at h
    exact absurd h (by simp)
end Go.Proofs.YtnnpolnpgghkgaaDoor.P
