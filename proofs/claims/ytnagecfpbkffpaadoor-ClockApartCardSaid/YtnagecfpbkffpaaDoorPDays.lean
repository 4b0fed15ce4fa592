import Derived.Test.YtnagecfpbkffpaaDoorPx0
import Derived.Test.YtnagecfpbkffpaaDoorPEv
import Derived.Laws.RangeString
namespace Go.Proofs.YtnagecfpbkffpaaDoor.P
open Go.RowKit Go.Proofs.YtnagecfpbkffpaaDoorW.PrintWords Go.Proofs.YtnagecfpbkffpaaDoorW.PrintLast Go.Proofs.YtnagecfpbkffpaaDoorW.PrintMore
set_option linter.unusedVariables false
def dayLetters : ByteArray := ⟨#[109, 116, 119, 104, 102, 115, 117]⟩
def dayB (d : Int) (i : Nat) : Bool := decide (d / 2 ^ i % 2 = 1)
def daysL (d : Int) : Nat → List Int
  | 0 => []
  | k + 1 => daysL d k ++ if dayB d k then [bt dayLetters k] else []
def clock_Days.f (a0 : Int) : Option ByteArray := if 0 ≤ a0 ∧ a0 ≤ 255 then some (strOfNums (daysL a0 7)) else none
theorem and1_all : ∀ c : Fin 256, Go.bits .and .u8 (c.1 : Int) 1 = (c.1 : Int) % 2 := by decide +kernel
theorem bit_test (d : Int) (k : Nat) (n x : Int) (h0 : 0 ≤ d) (h1 : d ≤ 255) (hx : x = if k = 0 then d else d / n) (hn : n = 2 ^ k) : (Go.bits .and .u8 x 1 == 1) = dayB d k := by
  have hx2 : x = d / 2 ^ k := by
    rw [hx]
    by_cases hk : k = 0
    · rw [if_pos hk, hk]
      simp
    · rw [if_neg hk, hn]
  have hp : (0 : Int) < 2 ^ k := Int.pow_pos (by decide)
  have hr : 0 ≤ x ∧ x ≤ 255 := by
    rw [hx2]
    exact ⟨Int.ediv_nonneg h0 (Int.le_of_lt hp), Int.le_trans (Int.ediv_le_self _ h0) h1⟩
  have h2 := and1_all ⟨x.toNat, by omega⟩
  have e : ((x.toNat : Nat) : Int) = x := by omega
  simp only [e] at h2
  rw [h2, hx2]
  unfold dayB
  rw [Bool.eq_iff_iff, beq_iff_eq, decide_eq_true_iff]
theorem enc_letters : ∀ k : Fin 7, Utf8.encode (dayLetters[k.1]'(by have := k.2; exact this)).toNat = strOfNums [bt dayLetters (k.1 : Int)] := by decide +kernel
theorem str_append' (a b : List Int) : strOfNums a ++ strOfNums b = strOfNums (a ++ b) := by
  apply ByteArray.ext
  rw [ByteArray.data_append]
  apply Array.ext'
  simp [strOfNums]
theorem enc_one (l : List Int) (k : Fin 7) : strOfNums l ++ Utf8.encode (dayLetters[k.1]'(by have := k.2; exact this)).toNat = strOfNums (l ++ [bt dayLetters (k.1 : Int)]) := by
  rw [enc_letters k, str_append']
theorem enc_size (k : Fin 7) : (Utf8.encode (dayLetters[k.1]'(by have := k.2; exact this)).toNat).size = 1 := by
  rw [enc_letters k, strOfNums_size]
  rfl
theorem daysL_size (d : Int) (k : Nat) : (strOfNums (daysL d k)).size ≤ k := by
  rw [strOfNums_size]
  induction k with
  | zero => exact Nat.le_refl _
  | succ k ih =>
    unfold daysL
    rw [List.length_append]
    split
    · simp; omega
    · simp; omega
theorem iter_less (w : World) (k : Nat) (h : k < 7) : 7 - (w.iter dayLetters (k + 1)).iterPos w.heap.size < 7 - (w.iter dayLetters k).iterPos w.heap.size := by
  simp only [World.iterPos, World.iter_heap]
  omega
theorem iter_below (w : World) (k : Nat) : Below w.heap.size w (w.iter dayLetters k) := (Below.refl _ _).alloc (Nat.le_refl _) _
set_option maxHeartbeats 4000000 in
set_option maxRecDepth 100000 in
theorem clock_Days.calls (a0 : Int) (r : ByteArray) (w : World) (h : clock_Days.f a0 = some r) :
    Calls Tryd.prog 22 #[.int .u8 a0] w fun e w' => e = .returned (.string r) ∧ Below w.heap.size w w' := by
  unfold clock_Days.f at h
  by_cases hd : 0 ≤ a0 ∧ a0 ≤ 255
  · rw [if_pos hd] at h
    obtain rfl : strOfNums (daysL a0 7) = r := by simpa using h
    clear h
    obtain ⟨h0, h1⟩ := hd
    go_enter Tryd.func22, Tryd.ntmps22
    go_wp2
    go_loopw [3] (fun v wr => ∃ k : Nat, k ≤ 7 ∧ v = .string (strOfNums (daysL a0 k)) ∧ wr = w.iter dayLetters k) (fun _ wr => 7 - wr.iterPos w.heap.size)
    case atStart => exact ⟨0, by omega, rfl, rfl⟩
    case round =>
      obtain ⟨k, hk, rfl, rfl⟩ := hrel
      by_cases hlt : k < 7
      · have hnx := run_next_ascii (P := Tryd.prog) w dayLetters k
        have hcase : k = 0 ∨ k = 1 ∨ k = 2 ∨ k = 3 ∨ k = 4 ∨ k = 5 ∨ k = 6 := by omega
        rcases hcase with rfl | rfl | rfl | rfl | rfl | rfl | rfl
        · have hn2 := fun ty => hnx ty (by decide) (by decide)
          have he := bit_test a0 0 1 a0 h0 h1 rfl (by decide)
          have hs : strOfNums (daysL a0 0) ++ Utf8.encode (dayLetters[0]'(by decide)).toNat = strOfNums (daysL a0 0 ++ [bt dayLetters 0]) := enc_one _ ⟨0, by decide⟩
          have hl := daysL_size a0 0
          clear hnx hlt hk
          by_cases hb : dayB a0 0 = true
          · rw [hb] at he
            have hnext : daysL a0 1 = daysL a0 0 ++ [bt dayLetters 0] := by rw [show daysL a0 1 = daysL a0 0 ++ if dayB a0 0 then [bt dayLetters 0] else [] from rfl, if_pos hb]
            rw [← hnext] at hs
            have HS := Aside0.mk hs
            have hz : (strOfNums (daysL a0 0)).size + (Utf8.encode (dayLetters[0]'(by decide)).toNat).size ≤ 9223372036854775807 := by have hz1 := enc_size ⟨0, by decide⟩; simp only [] at hz1; omega
            clear hs hb hl hnext
            go_wp2
            refine ⟨⟨1, by omega, ?_, rfl⟩, iter_less w 0 (by decide)⟩
            rw [HS.out]
          · have hb' : dayB a0 0 = false := by simpa using hb
            rw [hb'] at he
            have hnext : daysL a0 1 = daysL a0 0 := by rw [show daysL a0 1 = daysL a0 0 ++ if dayB a0 0 then [bt dayLetters 0] else [] from rfl, if_neg hb, List.append_nil]
            have HN := Aside0.mk hnext
            clear hs hb hb' hl hnext
            go_wp2
            refine ⟨⟨1, by omega, ?_, rfl⟩, iter_less w 0 (by decide)⟩
            rw [HN.out]
        · have hn2 := fun ty => hnx ty (by decide) (by decide)
          have he := bit_test a0 1 2 (a0 / 2) h0 h1 rfl (by decide)
          have hs : strOfNums (daysL a0 1) ++ Utf8.encode (dayLetters[1]'(by decide)).toNat = strOfNums (daysL a0 1 ++ [bt dayLetters 1]) := enc_one _ ⟨1, by decide⟩
          have hl := daysL_size a0 1
          clear hnx hlt hk
          by_cases hb : dayB a0 1 = true
          · rw [hb] at he
            have hnext : daysL a0 2 = daysL a0 1 ++ [bt dayLetters 1] := by rw [show daysL a0 2 = daysL a0 1 ++ if dayB a0 1 then [bt dayLetters 1] else [] from rfl, if_pos hb]
            rw [← hnext] at hs
            have HS := Aside0.mk hs
            have hz : (strOfNums (daysL a0 1)).size + (Utf8.encode (dayLetters[1]'(by decide)).toNat).size ≤ 9223372036854775807 := by have hz1 := enc_size ⟨1, by decide⟩; simp only [] at hz1; omega
            clear hs hb hl hnext
            go_wp2
            refine ⟨⟨2, by omega, ?_, rfl⟩, iter_less w 1 (by decide)⟩
            rw [HS.out]
          · have hb' : dayB a0 1 = false := by simpa using hb
            rw [hb'] at he
            have hnext : daysL a0 2 = daysL a0 1 := by rw [show daysL a0 2 = daysL a0 1 ++ if dayB a0 1 then [bt dayLetters 1] else [] from rfl, if_neg hb, List.append_nil]
            have HN := Aside0.mk hnext
            clear hs hb hb' hl hnext
            go_wp2
            refine ⟨⟨2, by omega, ?_, rfl⟩, iter_less w 1 (by decide)⟩
            rw [HN.out]
        · have hn2 := fun ty => hnx ty (by decide) (by decide)
          have he := bit_test a0 2 4 (a0 / 4) h0 h1 rfl (by decide)
          have hs : strOfNums (daysL a0 2) ++ Utf8.encode (dayLetters[2]'(by decide)).toNat = strOfNums (daysL a0 2 ++ [bt dayLetters 2]) := enc_one _ ⟨2, by decide⟩
          have hl := daysL_size a0 2
          clear hnx hlt hk
          by_cases hb : dayB a0 2 = true
          · rw [hb] at he
            have hnext : daysL a0 3 = daysL a0 2 ++ [bt dayLetters 2] := by rw [show daysL a0 3 = daysL a0 2 ++ if dayB a0 2 then [bt dayLetters 2] else [] from rfl, if_pos hb]
            rw [← hnext] at hs
            have HS := Aside0.mk hs
            have hz : (strOfNums (daysL a0 2)).size + (Utf8.encode (dayLetters[2]'(by decide)).toNat).size ≤ 9223372036854775807 := by have hz1 := enc_size ⟨2, by decide⟩; simp only [] at hz1; omega
            clear hs hb hl hnext
            go_wp2
            refine ⟨⟨3, by omega, ?_, rfl⟩, iter_less w 2 (by decide)⟩
            rw [HS.out]
          · have hb' : dayB a0 2 = false := by simpa using hb
            rw [hb'] at he
            have hnext : daysL a0 3 = daysL a0 2 := by rw [show daysL a0 3 = daysL a0 2 ++ if dayB a0 2 then [bt dayLetters 2] else [] from rfl, if_neg hb, List.append_nil]
            have HN := Aside0.mk hnext
            clear hs hb hb' hl hnext
            go_wp2
            refine ⟨⟨3, by omega, ?_, rfl⟩, iter_less w 2 (by decide)⟩
            rw [HN.out]
        · have hn2 := fun ty => hnx ty (by decide) (by decide)
          have he := bit_test a0 3 8 (a0 / 8) h0 h1 rfl (by decide)
          have hs : strOfNums (daysL a0 3) ++ Utf8.encode (dayLetters[3]'(by decide)).toNat = strOfNums (daysL a0 3 ++ [bt dayLetters 3]) := enc_one _ ⟨3, by decide⟩
          have hl := daysL_size a0 3
          clear hnx hlt hk
          by_cases hb : dayB a0 3 = true
          · rw [hb] at he
            have hnext : daysL a0 4 = daysL a0 3 ++ [bt dayLetters 3] := by rw [show daysL a0 4 = daysL a0 3 ++ if dayB a0 3 then [bt dayLetters 3] else [] from rfl, if_pos hb]
            rw [← hnext] at hs
            have HS := Aside0.mk hs
            have hz : (strOfNums (daysL a0 3)).size + (Utf8.encode (dayLetters[3]'(by decide)).toNat).size ≤ 9223372036854775807 := by have hz1 := enc_size ⟨3, by decide⟩; simp only [] at hz1; omega
            clear hs hb hl hnext
            go_wp2
            refine ⟨⟨4, by omega, ?_, rfl⟩, iter_less w 3 (by decide)⟩
            rw [HS.out]
          · have hb' : dayB a0 3 = false := by simpa using hb
            rw [hb'] at he
            have hnext : daysL a0 4 = daysL a0 3 := by rw [show daysL a0 4 = daysL a0 3 ++ if dayB a0 3 then [bt dayLetters 3] else [] from rfl, if_neg hb, List.append_nil]
            have HN := Aside0.mk hnext
            clear hs hb hb' hl hnext
            go_wp2
            refine ⟨⟨4, by omega, ?_, rfl⟩, iter_less w 3 (by decide)⟩
            rw [HN.out]
        · have hn2 := fun ty => hnx ty (by decide) (by decide)
          have he := bit_test a0 4 16 (a0 / 16) h0 h1 rfl (by decide)
          have hs : strOfNums (daysL a0 4) ++ Utf8.encode (dayLetters[4]'(by decide)).toNat = strOfNums (daysL a0 4 ++ [bt dayLetters 4]) := enc_one _ ⟨4, by decide⟩
          have hl := daysL_size a0 4
          clear hnx hlt hk
          by_cases hb : dayB a0 4 = true
          · rw [hb] at he
            have hnext : daysL a0 5 = daysL a0 4 ++ [bt dayLetters 4] := by rw [show daysL a0 5 = daysL a0 4 ++ if dayB a0 4 then [bt dayLetters 4] else [] from rfl, if_pos hb]
            rw [← hnext] at hs
            have HS := Aside0.mk hs
            have hz : (strOfNums (daysL a0 4)).size + (Utf8.encode (dayLetters[4]'(by decide)).toNat).size ≤ 9223372036854775807 := by have hz1 := enc_size ⟨4, by decide⟩; simp only [] at hz1; omega
            clear hs hb hl hnext
            go_wp2
            refine ⟨⟨5, by omega, ?_, rfl⟩, iter_less w 4 (by decide)⟩
            rw [HS.out]
          · have hb' : dayB a0 4 = false := by simpa using hb
            rw [hb'] at he
            have hnext : daysL a0 5 = daysL a0 4 := by rw [show daysL a0 5 = daysL a0 4 ++ if dayB a0 4 then [bt dayLetters 4] else [] from rfl, if_neg hb, List.append_nil]
            have HN := Aside0.mk hnext
            clear hs hb hb' hl hnext
            go_wp2
            refine ⟨⟨5, by omega, ?_, rfl⟩, iter_less w 4 (by decide)⟩
            rw [HN.out]
        · have hn2 := fun ty => hnx ty (by decide) (by decide)
          have he := bit_test a0 5 32 (a0 / 32) h0 h1 rfl (by decide)
          have hs : strOfNums (daysL a0 5) ++ Utf8.encode (dayLetters[5]'(by decide)).toNat = strOfNums (daysL a0 5 ++ [bt dayLetters 5]) := enc_one _ ⟨5, by decide⟩
          have hl := daysL_size a0 5
          clear hnx hlt hk
          by_cases hb : dayB a0 5 = true
          · rw [hb] at he
            have hnext : daysL a0 6 = daysL a0 5 ++ [bt dayLetters 5] := by rw [show daysL a0 6 = daysL a0 5 ++ if dayB a0 5 then [bt dayLetters 5] else [] from rfl, if_pos hb]
            rw [← hnext] at hs
            have HS := Aside0.mk hs
            have hz : (strOfNums (daysL a0 5)).size + (Utf8.encode (dayLetters[5]'(by decide)).toNat).size ≤ 9223372036854775807 := by have hz1 := enc_size ⟨5, by decide⟩; simp only [] at hz1; omega
            clear hs hb hl hnext
            go_wp2
            refine ⟨⟨6, by omega, ?_, rfl⟩, iter_less w 5 (by decide)⟩
            rw [HS.out]
          · have hb' : dayB a0 5 = false := by simpa using hb
            rw [hb'] at he
            have hnext : daysL a0 6 = daysL a0 5 := by rw [show daysL a0 6 = daysL a0 5 ++ if dayB a0 5 then [bt dayLetters 5] else [] from rfl, if_neg hb, List.append_nil]
            have HN := Aside0.mk hnext
            clear hs hb hb' hl hnext
            go_wp2
            refine ⟨⟨6, by omega, ?_, rfl⟩, iter_less w 5 (by decide)⟩
            rw [HN.out]
        · have hn2 := fun ty => hnx ty (by decide) (by decide)
          have he := bit_test a0 6 64 (a0 / 64) h0 h1 rfl (by decide)
          have hs : strOfNums (daysL a0 6) ++ Utf8.encode (dayLetters[6]'(by decide)).toNat = strOfNums (daysL a0 6 ++ [bt dayLetters 6]) := enc_one _ ⟨6, by decide⟩
          have hl := daysL_size a0 6
          clear hnx hlt hk
          by_cases hb : dayB a0 6 = true
          · rw [hb] at he
            have hnext : daysL a0 7 = daysL a0 6 ++ [bt dayLetters 6] := by rw [show daysL a0 7 = daysL a0 6 ++ if dayB a0 6 then [bt dayLetters 6] else [] from rfl, if_pos hb]
            rw [← hnext] at hs
            have HS := Aside0.mk hs
            have hz : (strOfNums (daysL a0 6)).size + (Utf8.encode (dayLetters[6]'(by decide)).toNat).size ≤ 9223372036854775807 := by have hz1 := enc_size ⟨6, by decide⟩; simp only [] at hz1; omega
            clear hs hb hl hnext
            go_wp2
            refine ⟨⟨7, by omega, ?_, rfl⟩, iter_less w 6 (by decide)⟩
            rw [HS.out]
          · have hb' : dayB a0 6 = false := by simpa using hb
            rw [hb'] at he
            have hnext : daysL a0 7 = daysL a0 6 := by rw [show daysL a0 7 = daysL a0 6 ++ if dayB a0 6 then [bt dayLetters 6] else [] from rfl, if_neg hb, List.append_nil]
            have HN := Aside0.mk hnext
            clear hs hb hb' hl hnext
            go_wp2
            refine ⟨⟨7, by omega, ?_, rfl⟩, iter_less w 6 (by decide)⟩
            rw [HN.out]
      · have hke : k = 7 := by omega
        subst hke
        have hnx := fun ty => run_next_end (P := Tryd.prog) w dayLetters 7 ty (by decide)
        clear hlt hk
        go_wp2
        go_ret
        exact ⟨rfl, iter_below w _⟩
  · rw [if_neg hd] at h
    exact absurd h (by simp)
end Go.Proofs.YtnagecfpbkffpaaDoor.P
