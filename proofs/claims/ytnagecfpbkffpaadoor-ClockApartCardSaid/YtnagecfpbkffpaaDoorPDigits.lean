import Derived.Test.YtnagecfpbkffpaaDoorPx0
import Derived.Test.YtnagecfpbkffpaaDoorPEv
namespace Go.Proofs.YtnagecfpbkffpaaDoor.P
open Go.RowKit Go.Proofs.YtnagecfpbkffpaaDoorW.PrintWords Go.Proofs.YtnagecfpbkffpaaDoorW.PrintLast Go.Proofs.YtnagecfpbkffpaaDoorW.PrintMore
set_option linter.unusedVariables false
def digs : Nat → Nat → List Int
  | 0, _ => []
  | k + 1, n => if n < 10 then [48 + (n : Int)] else digs k (n / 10) ++ [48 + ((n % 10 : Nat) : Int)]
def digits_Word.f (a0 : Int) : Option ByteArray := if 0 ≤ a0 ∧ a0 ≤ 18446744073709551615 then some (strOfNums (digs 20 a0.toNat)) else none
def Tail20 (w wr : World) (q : Nat) (ds : List Int) : Prop := ∃ arr : Array Value, wr.heap[w.heap.size]? = some (.cells arr 93 (0, 0)) ∧ arr.size = 20 ∧ q + ds.length = 20 ∧ ∀ i x, ds[i]? = some x → arr[q + i]? = some (.int .u8 x)
theorem slice20 (g q : Nat) (hq : q ≤ 19) (W : World) : (Instr.sliceAt 93 (.pointer (some ⟨g, 0, none⟩)) (some (.int .i64 (q : Int))) none none).run Tryd.prog W = .ok (.slice (some ⟨g, q, none⟩) (20 - q) (20 - q)) W := by
  have hlen : Tryd.prog.arrayLen 93 = 20 := by kernel_rfl
  have hel : Tryd.prog.elem 93 = 5 := by kernel_rfl
  have h := run_sliceAt_array_l (P := Tryd.prog) W 93 ⟨g, 0, none⟩ (by rw [hlen, hel]; exact Tryd.underlying93) .i64 (q : Int) (by omega) (by rw [hlen]; omega)
  rw [hlen, hel, Tryd.sizeOf5 W] at h
  rw [h]
  simp only [Result.andThen_ok, slicedAt, Int.toNat_natCast]
  rw [if_neg (by omega), add_plain, Nat.mul_one]
theorem digs_step (m k : Nat) (h : ¬ m < 10) : digs (k + 1) m = digs k (m / 10) ++ [48 + ((m % 10 : Nat) : Int)] := by rw [digs, if_neg h]
theorem tail_step (w wr : World) (q m : Nat) (ds : List Int) (hq : q ≤ 19) (h : Tail20 w wr (q + 1) ds) : Tail20 w (wr.setCell ⟨w.heap.size, q, none⟩ (.int .u8 (48 + (m : Int) % 10))) q ((48 + ((m % 10 : Nat) : Int)) :: ds) := by
  obtain ⟨arr, hb, hs, hl, hd⟩ := h
  refine ⟨_, blk_set hb q _, by simp [hs], by simp only [List.length_cons]; omega, ?_⟩
  intro i x hi
  rw [Array.getElem?_setIfInBounds]
  cases i with
  | zero =>
    obtain rfl : 48 + ((m % 10 : Nat) : Int) = x := by simpa using hi
    rw [if_pos (by omega), if_pos (by omega)]
    rfl
  | succ i =>
    rw [if_neg (by omega)]
    have := hd i x (by simpa using hi)
    rw [show q + (i + 1) = q + 1 + i by omega]
    exact this
theorem tail_string (w W : World) (q : Nat) (ds : List Int) (h : Tail20 w W q ds) : (convert 84 9 (.slice (some ⟨w.heap.size, q, none⟩) (20 - q) (20 - q))).run Tryd.prog W = .ok (.string (strOfNums ds)) W := by
  obtain ⟨arr, hb, hs, hl, hd⟩ := h
  refine run_convert_bytes_arg (P := Tryd.prog) W 84 5 Tryd.underlying84 Tryd.underlying5 w.heap.size q (20 - q) (20 - q) ds (by omega) ?_ 9 Tryd.underlying9
  intro i hi
  have hil : i < ds.length := by omega
  rw [blk_cell hb, hd i _ (List.getElem?_eq_getElem hil)]
  simp [hil]
set_option maxHeartbeats 1600000 in
set_option maxRecDepth 100000 in
theorem word_walk (m0 : Nat) (w : World) (hm0 : m0 ≤ 18446744073709551615) :
    Calls Tryd.prog 41 #[.int .u64 (m0 : Int)] w fun e w' => e = .returned (.string (strOfNums (digs 20 m0))) ∧ Below w.heap.size w w' := by
  have HM0 := Aside0.mk hm0
  clear hm0
  go_enter Tryd.func41, Tryd.ntmps41
  go_wp2
  go_loopw [0, 4, 5] (fun n p c wr => ∃ (q m : Nat) (ds : List Int), n = .int .u64 m ∧ p = .int .i64 ((q : Int) + 1) ∧ c = .int .i64 (19 - (q : Int)) ∧ Aside0 (m < 10 ^ (q + 1) ∧ m ≤ 18446744073709551615) ∧ q ≤ 19 ∧ Aside0 (Tail20 w wr (q + 1) ds) ∧ Aside0 (Below w.heap.size w wr) ∧ Aside0 (digs 20 m0 = digs (q + 1) m ++ ds)) (fun _ p _ _ => (intOf p).toNat)
  case atStart =>
    refine ⟨19, m0, [], rfl, rfl, rfl, ⟨?_, HM0.out⟩, by omega, ⟨⟨_, heap_alloc_new w _, rfl, rfl, fun i x h => by simp at h⟩⟩, ⟨(Below.refl _ _).alloc (Nat.le_refl _) _⟩, ⟨by simp⟩⟩
    have h := HM0.out
    have : (10 : Nat) ^ (19 + 1) = 100000000000000000000 := by decide
    omega
  case round =>
    obtain ⟨q, m, ds, rfl, rfl, rfl, HM, hq, HT, HB, HD⟩ := hrel
    obtain ⟨arr, hb, hsz, hl, hds⟩ := HT.out
    have hcell := blk_cell hb q
    have hfr := blk_frozen hb q
    obtain ⟨y, hy⟩ : ∃ y, arr[q]? = some y := ⟨arr[q]'(by omega), Array.getElem?_eq_getElem _⟩
    rw [hy] at hcell
    have HT2 := Aside0.mk (tail_step w wr q m ds hq HT.out)
    have hge : w.heap.size ≤ (⟨w.heap.size, q, none⟩ : Addr).block := Nat.le_refl _
    have HB2 := Aside0.mk (HB.out.setCell hge (.int .u8 (48 + (m : Int) % 10)))
    have HWR := Aside0.mk (show IntKind.u64.wrap ((m : Int) / 10) = ((m / 10 : Nat) : Int) by
      rw [IntWalk.u64_in _ ⟨by omega, by have := HM.out.2; omega⟩]
      rfl)
    clear hb hsz hl hds hy hge HT HB
    by_cases h10 : m < 10
    · have hz : (IntKind.u64.wrap ((m : Int) / 10) == 0) = true := by
        rw [HWR.out, beq_iff_eq]
        omega
      have hsl := fun W => slice20 w.heap.size q hq W
      have hcv := tail_string w _ q _ HT2.out
      have HE := Aside0.mk (show digs 20 m0 = (48 + ((m % 10 : Nat) : Int)) :: ds by
        rw [HD.out, digs, if_pos h10, show m % 10 = m by omega]
        rfl)
      clear HT2 h10 HD
      go_wp2
      go_ret
      exact ⟨by rw [HE.out]; rfl, HB2.out⟩
    · have hz : (IntKind.u64.wrap ((m : Int) / 10) == 0) = false := by
        rw [HWR.out, beq_eq_false_iff_ne]
        omega
      have hq0 : q ≠ 0 := by
        rintro rfl
        have := HM.out.1
        simp at this
        omega
      obtain ⟨p, rfl⟩ : ∃ p, q = p + 1 := ⟨q - 1, by omega⟩
      have HP := Aside0.mk (show m / 10 < 10 ^ (p + 1) by
        have h1 := HM.out.1
        rw [Nat.pow_succ] at h1
        exact (Nat.div_lt_iff_lt_mul (by decide)).2 h1)
      have HE := Aside0.mk (show digs 20 m0 = digs (p + 1) (m / 10) ++ ((48 + ((m % 10 : Nat) : Int)) :: ds) by
        rw [HD.out, digs_step m (p + 1) h10, List.append_assoc]
        rfl)
      clear h10 hq0 HD
      go_wp2
      go_roundw
      case rel => exact ⟨p, m / 10, (48 + ((m % 10 : Nat) : Int)) :: ds, by rw [HWR.out], by go_num, by go_num, ⟨HP.out, by have := HM.out.2; omega⟩, by omega, HT2, HB2, HE⟩
      case measure => simp [intOf]; omega
theorem digits_Word.calls (a0 : Int) (r : ByteArray) (w : World) (h : digits_Word.f a0 = some r) :
    Calls Tryd.prog 41 #[.int .u64 a0] w fun e w' => e = .returned (.string r) ∧ Below w.heap.size w w' := by
  unfold digits_Word.f at h
  by_cases hd : 0 ≤ a0 ∧ a0 ≤ 18446744073709551615
  · rw [if_pos hd] at h
    obtain rfl : strOfNums (digs 20 a0.toNat) = r := by simpa using h
    have e : a0 = ((a0.toNat : Nat) : Int) := by omega
    have h2 := word_walk a0.toNat w (by omega)
    rw [← e] at h2
    exact h2
  · rw [if_neg hd] at h
    exact absurd h (by simp)
end Go.Proofs.YtnagecfpbkffpaaDoor.P
