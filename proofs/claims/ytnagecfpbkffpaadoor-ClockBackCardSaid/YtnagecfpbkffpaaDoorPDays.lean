import Derived.Test.YtnagecfpbkffpaaDoorProg
import Derived.Below
import Derived.Deep.Draws
import Derived.Deep.AppendLies
import Derived.Maps.AppendAt
import Derived.OwnWalk
import Derived.Laws.BytesArg
import Derived.Laws.MakeOwn
import Derived.Laws.OwnMore
import Derived.Deep.OwnRows
import Derived.Tactics
import Derived.Lib.ConvBytes
import Derived.Laws.Slices
import Derived.WalkKit
import Derived.KernelRfl
import Derived.RowKit3
import Derived.Deep.LoopGhost
import Derived.Deep.QuietTactic
import Derived.BigQuiet
import Derived.WideLaws
import Derived.Deep.DeepCutAuto
import Derived.Deep.CutBlock
import Derived.Deep.RegionHeld3
import Derived.Laws.Rows
import Derived.Lib.AppendStr
import Derived.ArgAppend
import Derived.Laws.IdiomCopy
import Derived.OrdersHeld
import Derived.Laws.BitsLemmas
import Derived.RowKit
import Derived.WalkMore
import Derived.Test.YtnagecfpbkffpaaDoorWN
import Derived.Test.YtnagecfpbkffpaaDoorWRepsOne
import Derived.Shelf.Strings.Builder1
import Derived.Shelf.Strings.Builder2
import Derived.Shelf.Strings.OnBuilder
import Derived.Shelf.Small.Strs
import Derived.Shelf.Strings.BuilderF
import Derived.Shelf.Strings.BuilderK
import Derived.Shelf.Utf8.RuneCount
import Derived.Shelf.Strings.Builder2Cap
import Derived.Shelf.Strings.Search1
import Derived.Shelf.Strings.Search2
import Derived.Shelf.Strings.Search3
import Derived.Shelf.Strings.Cut
import Derived.Shelf.Strings.Count
import Derived.Shelf.LaysM
import Derived.Shelf.Strings.Shaped
import Derived.Shelf.Strings.Split
import Derived.Shelf.Strings.SplitShaped
import Derived.Shelf.Unicode.Decode
import Derived.Shelf.Strings.RuneCount
import Derived.Shelf.Strings.Explode
import Derived.Shelf.Unicode.DecodeSlow
import Derived.Shelf.Unicode.DecodeAny
import Derived.Shelf.Strings.BuilderCap
import Derived.Laws.RangeString
section
namespace Go.Proofs.YtnagecfpbkffpaaDoor.P
open Go.RowKit Go.Proofs.YtnagecfpbkffpaaDoorW.PrintWords Go.Proofs.YtnagecfpbkffpaaDoorW.PrintLast Go.Proofs.YtnagecfpbkffpaaDoorW.PrintMore
attribute [local go_sem] max2_int min2_int max_two min_two max_three min_three max_four min_four   -- for this text's walks alone
set_option linter.unusedVariables false
set_option linter.unusedSimpArgs false
def errW : Option Int → Value
  | none => .nilIface
  | some c => .iface 0 (.int .i64 c)
theorem errW_none : errW none = .nilIface := rfl
theorem errW_some (c : Int) : errW (some c) = .iface 0 (.int .i64 c) := rfl
theorem info9 : (Tryd.prog.info? 9).map (fun i => (i.zero, i.size, i.bytes)) = some (some (.string ⟨#[]⟩), 1, 16) := by kernel_rfl
end Go.Proofs.YtnagecfpbkffpaaDoor.P
end
section
namespace Go.Proofs.YtnagecfpbkffpaaDoor.P
open Go.RowKit Go.Proofs.YtnagecfpbkffpaaDoorW.PrintWords Go.Proofs.YtnagecfpbkffpaaDoorW.PrintLast Go.Proofs.YtnagecfpbkffpaaDoorW.PrintMore
attribute [local go_sem] max2_int min2_int max_two min_two max_three min_three max_four min_four   -- for this text's walks alone
set_option linter.unusedVariables false
set_option linter.unusedSimpArgs false
theorem eqA26 (d : Nat) (w : World) (x0 y0 : Int) (x1 y1 : Int) (x2 y2 : Int) (x3 y3 : Int) :
    (Op.equalIn (d + 2) 26 (.agg #[.int .u32 x0, .int .u8 x1, .int .i64 x2, .int .i64 x3]) (.agg #[.int .u32 y0, .int .u8 y1, .int .i64 y2, .int .i64 y3])).run Tryd.prog w = .ok (x0 == y0 && (x1 == y1 && (x2 == y2 && (x3 == y3)))) w := by
  refine eqA_of Tryd.underlying26 (by kernel_rfl) ?_
  refine eqf_cons (by rfl) (by go_simp; rfl) (by go_simp; rfl) (by go_simp) ?_
  refine eqf_cons (by rfl) (by go_simp; rfl) (by go_simp; rfl) (by go_simp) ?_
  refine eqf_cons (by rfl) (by go_simp; rfl) (by go_simp; rfl) (by go_simp) ?_
  exact eqf_last (by rfl) (by go_simp; rfl) (by go_simp; rfl) (by go_simp)
end Go.Proofs.YtnagecfpbkffpaaDoor.P
end
section
namespace Go.Proofs.YtnagecfpbkffpaaDoor.Q
def nums (l : List UInt8) : List Int := l.map fun b => (b.toNat : Int)
def bytes (l : List Int) : List UInt8 := l.map fun c => c.toNat.toUInt8
end Go.Proofs.YtnagecfpbkffpaaDoor.Q
end
section
namespace Go.Proofs.YtnagecfpbkffpaaDoor.Q
def Bs (l : List Int) : Prop := ∀ c ∈ l, 0 ≤ c ∧ c ≤ 255
theorem Bs.cons {c : Int} {l : List Int} (h : Bs (c :: l)) : (0 ≤ c ∧ c ≤ 255) ∧ Bs l := ⟨h c (by simp), fun d hd => h d (by simp [hd])⟩
theorem Bs.mk {c : Int} {l : List Int} (h : 0 ≤ c ∧ c ≤ 255) (hl : Bs l) : Bs (c :: l) := by
  intro d hd
  rcases List.mem_cons.1 hd with rfl | hd
  · exact h
  · exact hl d hd
theorem Bs.append {a b : List Int} (ha : Bs a) (hb : Bs b) : Bs (a ++ b) := by
  intro c hc
  rcases List.mem_append.1 hc with h | h
  · exact ha c h
  · exact hb c h
end Go.Proofs.YtnagecfpbkffpaaDoor.Q
end
section
namespace Go.Proofs.YtnagecfpbkffpaaDoor.P
open Go.RowKit Go.Proofs.YtnagecfpbkffpaaDoorW.PrintWords
set_option linter.unusedVariables false
set_option linter.unusedSimpArgs false
theorem Ev.ifp {α : Type} {c : Prop} [Decidable c] {f g : Nat → Option α} {r : α} (h : c) (k : Ev f r) : Ev (fun n => if c then f n else g n) r := Ev.congr (fun _ => if_pos h) k
theorem Ev.ifn {α : Type} {c : Prop} [Decidable c] {f g : Nat → Option α} {r : α} (h : ¬ c) (k : Ev g r) : Ev (fun n => if c then f n else g n) r := Ev.congr (fun _ => if_neg h) k
theorem Ev.const {α : Type} {x : Option α} {r : α} (h : x = some r) : Ev (fun _ => x) r := ⟨0, fun _ _ => h⟩
theorem Ev.eq {α : Type} {f : Nat → Option α} {a r : α} (k : Ev f a) (h : a = r) : Ev f r := h ▸ k
theorem Ev.call {α β : Type} {g : Nat → Option α} {f : Nat → α → Option β} {a : α} {r : β} (h : Ev g a) (k : Ev (fun n => f n a) r) : Ev (fun n => (g n).bind (f n)) r := Ev.bind h k
theorem w64_in {x : Int} (h0 : -9223372036854775808 ≤ x) (h1 : x ≤ 9223372036854775807) : wrap64 x = x := by unfold wrap64; omega
theorem bytes_Bs (s : ByteArray) : Q.Bs (bytesOf s) := by
  intro c hc
  obtain ⟨b, _, rfl⟩ := List.mem_map.1 hc
  have := b.toNat_lt
  omega
theorem str_bytes (s : ByteArray) : strOfNums (bytesOf s) = s := by
  unfold strOfNums bytesOf
  rw [List.map_map]
  have : ((fun n : Int => UInt8.ofNat n.toNat) ∘ fun b : UInt8 => (b.toNat : Int)) = id := by
    funext b
    simp
  rw [this, List.map_id]
theorem bytes_str (l : List Int) (h : Q.Bs l) : bytesOf (strOfNums l) = l := by
  unfold strOfNums bytesOf
  simp only [List.map_map]
  conv => rhs; rw [← List.map_id l]
  apply List.map_congr_left
  intro c hc
  have := h c hc
  simp only [Function.comp, UInt8.toNat_ofNat', id]
  omega
theorem bt_get (s : ByteArray) (i : Int) : bt s i = (bytesOf s).getD i.toNat 0 := by rw [← rd_bytesOf]; rfl
theorem bytes_drop (s : ByteArray) (i : Int) (h0 : 0 ≤ i) (h : i < s.size) : (bytesOf s).drop i.toNat = bt s i :: (bytesOf s).drop (i + 1).toNat := by
  have hl : i.toNat < (bytesOf s).length := by rw [bytesOf_length]; omega
  rw [List.drop_eq_getElem_cons hl, bt_get, show (i + 1).toNat = i.toNat + 1 by omega]
  simp [List.getD_eq_getElem?_getD, hl]
theorem empty_bytes (s : ByteArray) : s.toList = [] ↔ s.size = 0 := by
  rw [ByteArray.toList_eq]
  constructor
  · intro h; rw [← data_length, h]; rfl
  · intro h; exact List.eq_nil_of_length_eq_zero (by rw [data_length]; exact h)
end Go.Proofs.YtnagecfpbkffpaaDoor.P
end
section
namespace Go.Proofs.YtnagecfpbkffpaaDoor.P
open Go.RowKit Go.Proofs.YtnagecfpbkffpaaDoorW.PrintWords Go.Proofs.YtnagecfpbkffpaaDoorW.PrintLast Go.Proofs.YtnagecfpbkffpaaDoorW.PrintMore
set_option linter.unusedVariables false
def digs : Nat → Nat → List Int
  | 0, _ => []
  | k + 1, n => if n < 10 then [48 + (n : Int)] else digs k (n / 10) ++ [48 + ((n % 10 : Nat) : Int)]
def digits_Word.f (a0 : Int) : Option ByteArray := if 0 ≤ a0 ∧ a0 ≤ 18446744073709551615 then some (strOfNums (digs 20 a0.toNat)) else none
def Tail20 (w wr : World) (q : Nat) (ds : List Int) : Prop := ∃ arr : Array Value, wr.heap[w.heap.size]? = some (.cells arr 93 (0, 0)) ∧ arr.size = 20 ∧ q + ds.length = 20 ∧ ∀ i x, ds[i]? = some x → arr[q + i]? = some (.int .u8 x)
theorem slice20 (g q : Nat) (hq : q ≤ 19) (W : World) : (Instr.sliceAt 93 (.pointer (some ⟨g, 0, none⟩)) (some (.int .i64 (q : Int))) none none).run Tryd.prog W = .ok (.slice (some ⟨g, q, none⟩) (20 - q) (20 - q)) W := by
  have hlen : Tryd.prog.arrayLen 93 = 20 := by kernel_rfl
  have hel : Tryd.prog.elem 93 = 5 := by kernel_rfl
  have h := run_sliceAt_array_l (P := Tryd.prog) W 93 ⟨g, 0, none⟩ (by rw [hlen, hel]; exact Tryd.underlying93) .i64 (q : Int) (by omega) (by rw [hlen]; omega)
  rw [hlen, hel, Tryd.sizeOf5 W] at h
  rw [h]
  simp only [Result.andThen_ok, slicedAt, Int.toNat_natCast]
  rw [if_neg (by omega), add_plain, Nat.mul_one]
theorem digs_step (m k : Nat) (h : ¬ m < 10) : digs (k + 1) m = digs k (m / 10) ++ [48 + ((m % 10 : Nat) : Int)] := by rw [digs, if_neg h]
theorem tail_step (w wr : World) (q m : Nat) (ds : List Int) (hq : q ≤ 19) (h : Tail20 w wr (q + 1) ds) : Tail20 w (wr.setCell ⟨w.heap.size, q, none⟩ (.int .u8 (48 + (m : Int) % 10))) q ((48 + ((m % 10 : Nat) : Int)) :: ds) := by
  obtain ⟨arr, hb, hs, hl, hd⟩ := h
  refine ⟨_, blk_set hb q _, by simp [hs], by simp only [List.length_cons]; omega, ?_⟩
  intro i x hi
  rw [Array.getElem?_setIfInBounds]
  cases i with
  | zero =>
    obtain rfl : 48 + ((m % 10 : Nat) : Int) = x := by simpa using hi
    rw [if_pos (by omega), if_pos (by omega)]
    rfl
  | succ i =>
    rw [if_neg (by omega)]
    have := hd i x (by simpa using hi)
    rw [show q + (i + 1) = q + 1 + i by omega]
    exact this
theorem tail_string (w W : World) (q : Nat) (ds : List Int) (h : Tail20 w W q ds) : (convert 84 9 (.slice (some ⟨w.heap.size, q, none⟩) (20 - q) (20 - q))).run Tryd.prog W = .ok (.string (strOfNums ds)) W := by
  obtain ⟨arr, hb, hs, hl, hd⟩ := h
  refine run_convert_bytes_arg (P := Tryd.prog) W 84 5 Tryd.underlying84 Tryd.underlying5 w.heap.size q (20 - q) (20 - q) ds (by omega) ?_ 9 Tryd.underlying9
  intro i hi
  have hil : i < ds.length := by omega
  rw [blk_cell hb, hd i _ (List.getElem?_eq_getElem hil)]
  simp [hil]
set_option maxHeartbeats 1600000 in
set_option maxRecDepth 100000 in
theorem word_walk (m0 : Nat) (w : World) (hm0 : m0 ≤ 18446744073709551615) :
    Calls Tryd.prog 41 #[.int .u64 (m0 : Int)] w fun e w' => e = .returned (.string (strOfNums (digs 20 m0))) ∧ Below w.heap.size w w' := by
  have HM0 := Aside0.mk hm0
  clear hm0
  go_enter Tryd.func41, Tryd.ntmps41
  go_wp2
  go_loopw [0, 4, 5] (fun n p c wr => ∃ (q m : Nat) (ds : List Int), n = .int .u64 m ∧ p = .int .i64 ((q : Int) + 1) ∧ c = .int .i64 (19 - (q : Int)) ∧ Aside0 (m < 10 ^ (q + 1) ∧ m ≤ 18446744073709551615) ∧ q ≤ 19 ∧ Aside0 (Tail20 w wr (q + 1) ds) ∧ Aside0 (Below w.heap.size w wr) ∧ Aside0 (digs 20 m0 = digs (q + 1) m ++ ds)) (fun _ p _ _ => (intOf p).toNat)
  case atStart =>
    refine ⟨19, m0, [], rfl, rfl, rfl, ⟨?_, HM0.out⟩, by omega, ⟨⟨_, heap_alloc_new w _, rfl, rfl, fun i x h => by simp at h⟩⟩, ⟨(Below.refl _ _).alloc (Nat.le_refl _) _⟩, ⟨by simp⟩⟩
    have h := HM0.out
    have : (10 : Nat) ^ (19 + 1) = 100000000000000000000 := by decide
    omega
  case round =>
    obtain ⟨q, m, ds, rfl, rfl, rfl, HM, hq, HT, HB, HD⟩ := hrel
    obtain ⟨arr, hb, hsz, hl, hds⟩ := HT.out
    have hcell := blk_cell hb q
    have hfr := blk_frozen hb q
    obtain ⟨y, hy⟩ : ∃ y, arr[q]? = some y := ⟨arr[q]'(by omega), Array.getElem?_eq_getElem _⟩
    rw [hy] at hcell
    have HT2 := Aside0.mk (tail_step w wr q m ds hq HT.out)
    have hge : w.heap.size ≤ (⟨w.heap.size, q, none⟩ : Addr).block := Nat.le_refl _
    have HB2 := Aside0.mk (HB.out.setCell hge (.int .u8 (48 + (m : Int) % 10)))
    have HWR := Aside0.mk (show IntKind.u64.wrap ((m : Int) / 10) = ((m / 10 : Nat) : Int) by
      rw [IntWalk.u64_in _ ⟨by omega, by have := HM.out.2; omega⟩]
      rfl)
    clear hb hsz hl hds hy hge HT HB
    by_cases h10 : m < 10
    · have hz : (IntKind.u64.wrap ((m : Int) / 10) == 0) = true := by
        rw [HWR.out, beq_iff_eq]
        omega
      have hsl := fun W => slice20 w.heap.size q hq W
      have hcv := tail_string w _ q _ HT2.out
      have HE := Aside0.mk (show digs 20 m0 = (48 + ((m % 10 : Nat) : Int)) :: ds by
        rw [HD.out, digs, if_pos h10, show m % 10 = m by omega]
        rfl)
      clear HT2 h10 HD
      go_wp2
      go_ret
      exact ⟨by rw [HE.out]; rfl, HB2.out⟩
    · have hz : (IntKind.u64.wrap ((m : Int) / 10) == 0) = false := by
        rw [HWR.out, beq_eq_false_iff_ne]
        omega
      have hq0 : q ≠ 0 := by
        rintro rfl
        have := HM.out.1
        simp at this
        omega
      obtain ⟨p, rfl⟩ : ∃ p, q = p + 1 := ⟨q - 1, by omega⟩
      have HP := Aside0.mk (show m / 10 < 10 ^ (p + 1) by
        have h1 := HM.out.1
        rw [Nat.pow_succ] at h1
        exact (Nat.div_lt_iff_lt_mul (by decide)).2 h1)
      have HE := Aside0.mk (show digs 20 m0 = digs (p + 1) (m / 10) ++ ((48 + ((m % 10 : Nat) : Int)) :: ds) by
        rw [HD.out, digs_step m (p + 1) h10, List.append_assoc]
        rfl)
      clear h10 hq0 HD
      go_wp2
      go_roundw
      case rel => exact ⟨p, m / 10, (48 + ((m % 10 : Nat) : Int)) :: ds, by rw [HWR.out], by go_num, by go_num, ⟨HP.out, by have := HM.out.2; omega⟩, by omega, HT2, HB2, HE⟩
      case measure => simp [intOf]; omega
theorem digits_Word.calls (a0 : Int) (r : ByteArray) (w : World) (h : digits_Word.f a0 = some r) :
    Calls Tryd.prog 41 #[.int .u64 a0] w fun e w' => e = .returned (.string r) ∧ Below w.heap.size w w' := by
  unfold digits_Word.f at h
  by_cases hd : 0 ≤ a0 ∧ a0 ≤ 18446744073709551615
  · rw [if_pos hd] at h
    obtain rfl : strOfNums (digs 20 a0.toNat) = r := by simpa using h
    have e : a0 = ((a0.toNat : Nat) : Int) := by omega
    have h2 := word_walk a0.toNat w (by omega)
    rw [← e] at h2
    exact h2
  · rw [if_neg hd] at h
    exact absurd h (by simp)
end Go.Proofs.YtnagecfpbkffpaaDoor.P
end
section
namespace Go.Proofs.YtnagecfpbkffpaaDoor.P
open Go.RowKit Go.Proofs.YtnagecfpbkffpaaDoorW.PrintWords Go.Proofs.YtnagecfpbkffpaaDoorW.PrintLast Go.Proofs.YtnagecfpbkffpaaDoorW.PrintMore
attribute [local go_sem] max2_int min2_int max_two min_two max_three min_three max_four min_four   -- for this text's walks alone
set_option linter.unusedVariables false
set_option linter.unusedSimpArgs false
def digits_Print.f (a0 : Int) : Option (ByteArray) := if a0 < 0 then ((digits_Word.f (IntKind.u64.wrap (-(IntKind.u64.wrap (a0))))).bind fun t101 => (if 1 + t101.size ≤ 9223372036854775807 then (some ((⟨#[45]⟩ : ByteArray) ++ t101)) else (none))) else ((digits_Word.f (IntKind.u64.wrap (a0))).bind fun t102 => (some t102))
set_option maxHeartbeats 8000000 in
set_option maxRecDepth 100000 in
theorem digits_Print.calls (a0 : Int) (r : ByteArray) (w : World) (h : digits_Print.f a0 = some r) :
    Calls Tryd.prog 25 #[.int .i64 a0] w fun e w' => e = .returned (.string r) ∧ Below w.heap.size w w' := by
  have HB := Aside0.mk (Below.refl w.heap.size w)
  have H : (if a0 < 0 then ((digits_Word.f (IntKind.u64.wrap (-(IntKind.u64.wrap (a0))))).bind fun t101 => (if 1 + t101.size ≤ 9223372036854775807 then (some ((⟨#[45]⟩ : ByteArray) ++ t101)) else (none))) else ((digits_Word.f (IntKind.u64.wrap (a0))).bind fun t102 => (some t102))) = some r := h
  clear h
  by_cases c2 : a0 < 0
  · rw [if_pos c2] at H
    have c2b0 : decide (a0 < 0) = true := decide_eq_true c2
    clear c2
    replace H := Option.bind_eq_some_iff.mp H
    obtain ⟨t101, A30, H⟩ := H
    replace H : (if 1 + t101.size ≤ 9223372036854775807 then (some ((⟨#[45]⟩ : ByteArray) ++ t101)) else (none)) = some r := H
    have A3 := Aside0.mk A30
    clear A30
    by_cases c4 : 1 + t101.size ≤ 9223372036854775807
    · rw [if_pos c4] at H
      have c4b0 := eq_true c4
      have c4b1 : decide (1 + t101.size ≤ 9223372036854775807) = true := decide_eq_true c4
      try have c4b2 : (9223372036854775807 < 1 + t101.size) = False := eq_false (Nat.not_lt.2 c4)
      obtain rfl := Option.some.inj H
      go_enter Tryd.func25, Tryd.ntmps25
      go_wp2_with (first | ((with_reducible refine gate_callee (f := 41) rfl ?_); refine goesL_ (some 8) rfl rfl Tryd.func41 (by kernel_rfl) rfl #[.int .u64 (IntKind.u64.wrap (-(IntKind.u64.wrap (a0))))] rfl (by (try simp only [List.map_toArray, List.map_cons, List.map_nil]); first | done | rfl | (simp only [List.length_drop, List.length_take]; rfl)) ?_; (with_reducible refine (digits_Word.calls (IntKind.u64.wrap (-(IntKind.u64.wrap (a0)))) t101 _ A3.out).mono ?_); rintro e w5 ⟨rfl, hb⟩; refine ⟨_, rfl, ?_⟩; have n0_ := Aside0.mk (below_step (by repeat (first | (with_reducible first | exact HB.out | apply below_alloc | apply pw_below_drewN | apply below_drew1) | exact HB.out)) hb); clear HB; have HB := n0_; clear n0_; (try clear hb); (try clear hb2); (try clear hk); (try clear hi)))
      go_ret
      exact ⟨by first | rfl | (simp [errW_none, errW_some] <;> rfl) | (simp [*, errW_none, errW_some] <;> rfl), by repeat (first | (with_reducible first | exact HB.out | apply below_alloc | apply pw_below_drewN | apply below_drew1) | exact HB.out)⟩
    · rw [if_neg c4] at H
      exact absurd H (by simp)
  · rw [if_neg c2] at H
    have c2b0 : decide (a0 < 0) = false := decide_eq_false c2
    clear c2
    replace H := Option.bind_eq_some_iff.mp H
    obtain ⟨t102, A60, H⟩ := H
    replace H : (some t102) = some r := H
    have A6 := Aside0.mk A60
    clear A60
    obtain rfl := Option.some.inj H
    go_enter Tryd.func25, Tryd.ntmps25
    go_wp2_with (first | ((with_reducible refine gate_callee (f := 41) rfl ?_); refine goesL_ (some 12) rfl rfl Tryd.func41 (by kernel_rfl) rfl #[.int .u64 (IntKind.u64.wrap (a0))] rfl (by (try simp only [List.map_toArray, List.map_cons, List.map_nil]); first | done | rfl | (simp only [List.length_drop, List.length_take]; rfl)) ?_; (with_reducible refine (digits_Word.calls (IntKind.u64.wrap (a0)) t102 _ A6.out).mono ?_); rintro e w7 ⟨rfl, hb⟩; refine ⟨_, rfl, ?_⟩; have n0_ := Aside0.mk (below_step (by repeat (first | (with_reducible first | exact HB.out | apply below_alloc | apply pw_below_drewN | apply below_drew1) | exact HB.out)) hb); clear HB; have HB := n0_; clear n0_; (try clear hb); (try clear hb2); (try clear hk); (try clear hi)))
    go_ret
    exact ⟨by first | rfl | (simp [errW_none, errW_some] <;> rfl) | (simp [*, errW_none, errW_some] <;> rfl), by repeat (first | (with_reducible first | exact HB.out | apply below_alloc | apply pw_below_drewN | apply below_drew1) | exact HB.out)⟩
end Go.Proofs.YtnagecfpbkffpaaDoor.P
end
section
namespace Go.Proofs
open Go.Shelf
def Tryd.lays156_ren : Go.Shelf.Ren := ⟨fun | 156 => 38 | 165 => 53 | 166 => 54 | 169 => 55 | 240 => 63 | 241 => 64 | 276 => 70 | 277 => 71 | n => n, fun | 31 => 55 | 9 => 9 | 3 => 3 | 4 => 4 | 0 => 0 | 20 => 20 | 72 => 86 | 76 => 90 | 70 => 83 | 37 => 84 | 75 => 89 | 127 => 96 | 164 => 100 | 5 => 5 | 80 => 92 | n => n, fun | n => n⟩
theorem Tryd.lays156 : Go.Proofs.Lays.n156 Tryd.prog Tryd.lays156_ren := {
  mixed := by kernel_rfl
  f156 := Tryd.func38.trans (congrArg some (by kernel_rfl))
  f165 := Tryd.func53.trans (congrArg some (by kernel_rfl))
  f166 := Tryd.func54.trans (congrArg some (by kernel_rfl))
  f169 := Tryd.func55.trans (congrArg some (by kernel_rfl))
  f240 := Tryd.func63.trans (congrArg some (by kernel_rfl))
  f241 := Tryd.func64.trans (congrArg some (by kernel_rfl))
  f276 := Tryd.func70.trans (congrArg some (by kernel_rfl))
  f277 := Tryd.func71.trans (congrArg some (by kernel_rfl))
  t0 := Tryd.underlying0
  a0 := Tryd.isAgg0
  z0 := Tryd.sizeOf0
  v0 := Tryd.zeroValue0
  t3 := Tryd.underlying3
  a3 := Tryd.isAgg3
  z3 := Tryd.sizeOf3
  v3 := Tryd.zeroValue3
  t4 := Tryd.underlying4
  a4 := Tryd.isAgg4
  z4 := Tryd.sizeOf4
  v4 := Tryd.zeroValue4
  t9 := Tryd.underlying9
  a9 := Tryd.isAgg9
  z9 := Tryd.sizeOf9
  v9 := Tryd.zeroValue9
  t20 := Tryd.underlying20
  a20 := Tryd.isAgg20
  z20 := Tryd.sizeOf20
  v20 := Tryd.zeroValue20
  t31 := Tryd.underlying55
  a31 := Tryd.isAgg55
  z31 := Tryd.sizeOf55
  v31 := Tryd.zeroValue55
  t37 := Tryd.underlying84
  a37 := Tryd.isAgg84
  z37 := Tryd.sizeOf84
  v37 := Tryd.zeroValue84
  t70 := Tryd.underlying83
  a70 := Tryd.isAgg83
  z70 := Tryd.sizeOf83
  v70 := Tryd.zeroValue83
  t72 := Tryd.underlying86
  a72 := Tryd.isAgg86
  z72 := Tryd.sizeOf86
  v72 := Tryd.zeroValue86
  t75 := Tryd.underlying89
  a75 := Tryd.isAgg89
  z75 := Tryd.sizeOf89
  v75 := Tryd.zeroValue89
  t76 := Tryd.underlying90
  a76 := Tryd.isAgg90
  z76 := Tryd.sizeOf90
  v76 := Tryd.zeroValue90
  t127 := Tryd.underlying96
  a127 := Tryd.isAgg96
  z127 := Tryd.sizeOf96
  v127 := Tryd.zeroValue96
  t164 := Tryd.underlying100
  a164 := Tryd.isAgg100
  z164 := Tryd.sizeOf100
  v164 := Tryd.zeroValue100 }
theorem Tryd.Builder_Extra_156 : Builder.Extra Tryd.prog Tryd.lays156_ren := {
  sizeBuilder := by kernel_rfl
  liesBuilder := by kernel_rfl
  t5 := Tryd.underlying5
  a5 := Tryd.isAgg5
  z5 := Tryd.sizeOf5
  v5 := Tryd.zeroValue5
  infoByte := by kernel_rfl
  cellsByte := by kernel_rfl
  sizeByte := by kernel_rfl
  neB5 := by decide }
open Go.RowKit in
theorem Tryd.strings_Join_none (a : Option Addr) (c : Nat) (sep : ByteArray) (w : World) :
    Calls Tryd.prog 38 #[.slice a 0 c, .string sep] w fun e w' => e = .returned (.string ⟨#[]⟩) ∧ w' = w := Any.strings_Join_none Tryd.lays156 Tryd.Builder_Extra_156 a c sep w
open Go.RowKit in
theorem Tryd.strings_Join (bk o c : Nat) (xs : List ByteArray) (sep : ByteArray) (w : World) (hcells : ∀ (j : Nat) x, xs[j]? = some x → w.cell? ⟨bk, o + j, none⟩ = some (.string x)) (hbk : bk < w.heap.size) (hN : xs.length ≤ 140737488355328) (hcap : xs.length ≤ c) (hlen : (Lib.join (xs.map (·.data.toList)) sep.data.toList).length ≤ 140737488355328) :
    Calls Tryd.prog 38 #[.slice (some ⟨bk, o, none⟩) xs.length c, .string sep] w fun e w' => e = .returned (.string ⟨(Lib.join (xs.map (·.data.toList)) sep.data.toList).toArray⟩) ∧ Below w.heap.size w w' := Any.strings_Join Tryd.lays156 Tryd.Builder_Extra_156 bk o c xs sep w hcells hbk hN hcap hlen
def Tryd.lays137_ren : Go.Shelf.Ren := ⟨fun | 137 => 39 | 217 => 56 | 266 => 65 | n => n, fun | 9 => 9 | 5 => 5 | 3 => 3 | n => n, fun | n => n⟩
theorem Tryd.lays137 : Go.Proofs.Lays.n137 Tryd.prog Tryd.lays137_ren := {
  mixed := by kernel_rfl
  f137 := Tryd.func39.trans (congrArg some (by kernel_rfl))
  f217 := Tryd.func56.trans (congrArg some (by kernel_rfl))
  f266 := Tryd.func65.trans (congrArg some (by kernel_rfl))
  t3 := Tryd.underlying3
  a3 := Tryd.isAgg3
  z3 := Tryd.sizeOf3
  v3 := Tryd.zeroValue3
  t5 := Tryd.underlying5
  a5 := Tryd.isAgg5
  z5 := Tryd.sizeOf5
  v5 := Tryd.zeroValue5
  t9 := Tryd.underlying9
  a9 := Tryd.isAgg9
  z9 := Tryd.sizeOf9
  v9 := Tryd.zeroValue9 }
open Go.RowKit in
theorem Tryd.strings_IndexByte (s : ByteArray) (c : Int) (w : World) :
    Calls Tryd.prog 39 #[.string s, .int .u8 c] w fun e w' => e = .returned (.int .i64 (Lib.indexByte s.data.toList c.toNat.toUInt8)) ∧ w' = w := Any.strings_IndexByte Tryd.lays137 s c w
def Tryd.lays219_ren : Go.Shelf.Ren := ⟨fun | 219 => 69 | 217 => 56 | 225 => 73 | 224 => 74 | 267 => 75 | 266 => 65 | 314 => 76 | n => n, fun | 9 => 9 | 3 => 3 | 4 => 4 | 5 => 5 | 46 => 49 | 146 => 108 | 51 => 24 | n => n, fun | 1 => 0 | n => n⟩
theorem Tryd.lays219 : Go.Proofs.Lays.n219 Tryd.prog Tryd.lays219_ren := {
  mixed := by kernel_rfl
  f217 := Tryd.func56.trans (congrArg some (by kernel_rfl))
  f219 := Tryd.func69.trans (congrArg some (by kernel_rfl))
  f224 := Tryd.func74.trans (congrArg some (by kernel_rfl))
  f225 := Tryd.func73.trans (congrArg some (by kernel_rfl))
  f266 := Tryd.func65.trans (congrArg some (by kernel_rfl))
  f267 := Tryd.func75.trans (congrArg some (by kernel_rfl))
  f314 := Tryd.func76.trans (congrArg some (by kernel_rfl))
  t3 := Tryd.underlying3
  a3 := Tryd.isAgg3
  z3 := Tryd.sizeOf3
  v3 := Tryd.zeroValue3
  t4 := Tryd.underlying4
  a4 := Tryd.isAgg4
  z4 := Tryd.sizeOf4
  v4 := Tryd.zeroValue4
  t5 := Tryd.underlying5
  a5 := Tryd.isAgg5
  z5 := Tryd.sizeOf5
  v5 := Tryd.zeroValue5
  t9 := Tryd.underlying9
  a9 := Tryd.isAgg9
  z9 := Tryd.sizeOf9
  v9 := Tryd.zeroValue9
  t46 := Tryd.underlying49
  a46 := Tryd.isAgg49
  z46 := Tryd.sizeOf49
  v46 := Tryd.zeroValue49
  t51 := Tryd.underlying24
  a51 := Tryd.isAgg24
  z51 := Tryd.sizeOf24
  v51 := Tryd.zeroValue24
  t146 := Tryd.underlying108
  a146 := Tryd.isAgg108
  z146 := Tryd.sizeOf108
  v146 := Tryd.zeroValue108
  g1 := by kernel_rfl }
open Go.RowKit Go.Lib in
theorem Tryd.stringslite_Index_one (s : ByteArray) (c : UInt8) (w : World) :
    Calls Tryd.prog 69 #[.string s, .string ⟨#[c]⟩] w fun e w' => e = .returned (.int .i64 (Lib.indexByte s.data.toList c)) ∧ w' = w := Any.stringslite_Index_one Tryd.lays219 s c w
open Go.RowKit Go.Lib in
theorem Tryd.stringslite_Index (s sub : ByteArray) (m : Int) (w : World) (hs : s.size < 4294967281) (hm : w.cell? ⟨0, 0, none⟩ = some (.int .i64 m)) :
    Calls Tryd.prog 69 #[.string s, .string sub] w fun e w' => e = .returned (.int .i64 (Lib.index s.data.toList sub.data.toList)) ∧ w' = w := Any.stringslite_Index Tryd.lays219 s sub m w hs hm
def Tryd.lays143_ren : Go.Shelf.Ren := ⟨fun | 143 => 59 | 219 => 69 | 217 => 56 | 225 => 73 | 224 => 74 | 267 => 75 | 266 => 65 | 314 => 76 | n => n, fun | 9 => 9 | 3 => 3 | 4 => 4 | 5 => 5 | 46 => 49 | 146 => 108 | 51 => 24 | n => n, fun | 1 => 0 | n => n⟩
theorem Tryd.lays143 : Go.Proofs.Lays.n143 Tryd.prog Tryd.lays143_ren := {
  mixed := by kernel_rfl
  f143 := Tryd.func59.trans (congrArg some (by kernel_rfl))
  f217 := Tryd.func56.trans (congrArg some (by kernel_rfl))
  f219 := Tryd.func69.trans (congrArg some (by kernel_rfl))
  f224 := Tryd.func74.trans (congrArg some (by kernel_rfl))
  f225 := Tryd.func73.trans (congrArg some (by kernel_rfl))
  f266 := Tryd.func65.trans (congrArg some (by kernel_rfl))
  f267 := Tryd.func75.trans (congrArg some (by kernel_rfl))
  f314 := Tryd.func76.trans (congrArg some (by kernel_rfl))
  t3 := Tryd.underlying3
  a3 := Tryd.isAgg3
  z3 := Tryd.sizeOf3
  v3 := Tryd.zeroValue3
  t4 := Tryd.underlying4
  a4 := Tryd.isAgg4
  z4 := Tryd.sizeOf4
  v4 := Tryd.zeroValue4
  t5 := Tryd.underlying5
  a5 := Tryd.isAgg5
  z5 := Tryd.sizeOf5
  v5 := Tryd.zeroValue5
  t9 := Tryd.underlying9
  a9 := Tryd.isAgg9
  z9 := Tryd.sizeOf9
  v9 := Tryd.zeroValue9
  t46 := Tryd.underlying49
  a46 := Tryd.isAgg49
  z46 := Tryd.sizeOf49
  v46 := Tryd.zeroValue49
  t51 := Tryd.underlying24
  a51 := Tryd.isAgg24
  z51 := Tryd.sizeOf24
  v51 := Tryd.zeroValue24
  t146 := Tryd.underlying108
  a146 := Tryd.isAgg108
  z146 := Tryd.sizeOf108
  v146 := Tryd.zeroValue108
  g1 := by kernel_rfl }
open Go.RowKit Go.Lib in
theorem Tryd.strings_Index (s sub : ByteArray) (m : Int) (w : World) (hs : s.size < 4294967281) (hm : w.cell? ⟨0, 0, none⟩ = some (.int .i64 m)) :
    Calls Tryd.prog 59 #[.string s, .string sub] w fun e w' => e = .returned (.int .i64 (Lib.index s.data.toList sub.data.toList)) ∧ w' = w := Any.strings_Index Tryd.lays143 s sub m w hs hm
def Tryd.lays220_ren : Go.Shelf.Ren := ⟨fun | 220 => 60 | 219 => 69 | 217 => 56 | 225 => 73 | 224 => 74 | 267 => 75 | 266 => 65 | 314 => 76 | n => n, fun | 9 => 9 | 4 => 4 | 3 => 3 | 5 => 5 | 46 => 49 | 146 => 108 | 51 => 24 | n => n, fun | 1 => 0 | n => n⟩
theorem Tryd.lays220 : Go.Proofs.Lays.n220 Tryd.prog Tryd.lays220_ren := {
  mixed := by kernel_rfl
  f217 := Tryd.func56.trans (congrArg some (by kernel_rfl))
  f219 := Tryd.func69.trans (congrArg some (by kernel_rfl))
  f220 := Tryd.func60.trans (congrArg some (by kernel_rfl))
  f224 := Tryd.func74.trans (congrArg some (by kernel_rfl))
  f225 := Tryd.func73.trans (congrArg some (by kernel_rfl))
  f266 := Tryd.func65.trans (congrArg some (by kernel_rfl))
  f267 := Tryd.func75.trans (congrArg some (by kernel_rfl))
  f314 := Tryd.func76.trans (congrArg some (by kernel_rfl))
  t3 := Tryd.underlying3
  a3 := Tryd.isAgg3
  z3 := Tryd.sizeOf3
  v3 := Tryd.zeroValue3
  t4 := Tryd.underlying4
  a4 := Tryd.isAgg4
  z4 := Tryd.sizeOf4
  v4 := Tryd.zeroValue4
  t5 := Tryd.underlying5
  a5 := Tryd.isAgg5
  z5 := Tryd.sizeOf5
  v5 := Tryd.zeroValue5
  t9 := Tryd.underlying9
  a9 := Tryd.isAgg9
  z9 := Tryd.sizeOf9
  v9 := Tryd.zeroValue9
  t46 := Tryd.underlying49
  a46 := Tryd.isAgg49
  z46 := Tryd.sizeOf49
  v46 := Tryd.zeroValue49
  t51 := Tryd.underlying24
  a51 := Tryd.isAgg24
  z51 := Tryd.sizeOf24
  v51 := Tryd.zeroValue24
  t146 := Tryd.underlying108
  a146 := Tryd.isAgg108
  z146 := Tryd.sizeOf108
  v146 := Tryd.zeroValue108
  g1 := by kernel_rfl }
open Go.RowKit Go.Lib in
theorem Tryd.stringslite_Cut (s sep : ByteArray) (m : Int) (w : World) (hs : s.size < 4294967281) (hm : w.cell? ⟨0, 0, none⟩ = some (.int .i64 m)) :
    Calls Tryd.prog 60 #[.string s, .string sep] w fun e w' => e = .returned (.tuple #[.string ⟨(Lib.cut s.data.toList sep.data.toList).1.toArray⟩, .string ⟨(Lib.cut s.data.toList sep.data.toList).2.1.toArray⟩, .bool (Lib.cut s.data.toList sep.data.toList).2.2]) ∧ ∃ n, w' = w.drewN n := Any.stringslite_Cut Tryd.lays220 s sep m w hs hm
def Tryd.lays145_ren : Go.Shelf.Ren := ⟨fun | 145 => 44 | 220 => 60 | 219 => 69 | 217 => 56 | 225 => 73 | 224 => 74 | 267 => 75 | 266 => 65 | 314 => 76 | n => n, fun | 9 => 9 | 4 => 4 | 59 => 73 | 3 => 3 | 5 => 5 | 46 => 49 | 146 => 108 | 51 => 24 | n => n, fun | 1 => 0 | n => n⟩
theorem Tryd.lays145 : Go.Proofs.Lays.n145 Tryd.prog Tryd.lays145_ren := {
  mixed := by kernel_rfl
  f145 := Tryd.func44.trans (congrArg some (by kernel_rfl))
  f217 := Tryd.func56.trans (congrArg some (by kernel_rfl))
  f219 := Tryd.func69.trans (congrArg some (by kernel_rfl))
  f220 := Tryd.func60.trans (congrArg some (by kernel_rfl))
  f224 := Tryd.func74.trans (congrArg some (by kernel_rfl))
  f225 := Tryd.func73.trans (congrArg some (by kernel_rfl))
  f266 := Tryd.func65.trans (congrArg some (by kernel_rfl))
  f267 := Tryd.func75.trans (congrArg some (by kernel_rfl))
  f314 := Tryd.func76.trans (congrArg some (by kernel_rfl))
  t3 := Tryd.underlying3
  a3 := Tryd.isAgg3
  z3 := Tryd.sizeOf3
  v3 := Tryd.zeroValue3
  t4 := Tryd.underlying4
  a4 := Tryd.isAgg4
  z4 := Tryd.sizeOf4
  v4 := Tryd.zeroValue4
  t5 := Tryd.underlying5
  a5 := Tryd.isAgg5
  z5 := Tryd.sizeOf5
  v5 := Tryd.zeroValue5
  t9 := Tryd.underlying9
  a9 := Tryd.isAgg9
  z9 := Tryd.sizeOf9
  v9 := Tryd.zeroValue9
  t46 := Tryd.underlying49
  a46 := Tryd.isAgg49
  z46 := Tryd.sizeOf49
  v46 := Tryd.zeroValue49
  t51 := Tryd.underlying24
  a51 := Tryd.isAgg24
  z51 := Tryd.sizeOf24
  v51 := Tryd.zeroValue24
  t59 := Tryd.underlying73
  a59 := Tryd.isAgg73
  z59 := Tryd.sizeOf73
  v59 := Tryd.zeroValue73
  t146 := Tryd.underlying108
  a146 := Tryd.isAgg108
  z146 := Tryd.sizeOf108
  v146 := Tryd.zeroValue108
  g1 := by kernel_rfl }
open Go.RowKit Go.Lib in
theorem Tryd.strings_Cut (s sep : ByteArray) (m : Int) (w : World) (hs : s.size < 4294967281) (hm : w.cell? ⟨0, 0, none⟩ = some (.int .i64 m)) :
    Calls Tryd.prog 44 #[.string s, .string sep] w fun e w' => e = .returned (.tuple #[.string ⟨(Lib.cut s.data.toList sep.data.toList).1.toArray⟩, .string ⟨(Lib.cut s.data.toList sep.data.toList).2.1.toArray⟩, .bool (Lib.cut s.data.toList sep.data.toList).2.2]) ∧ ∃ n, w' = w.drewN n := Any.strings_Cut Tryd.lays145 s sep m w hs hm
def Tryd.lays138_ren : Go.Shelf.Ren := ⟨fun | 138 => 58 | 195 => 66 | 218 => 68 | 143 => 59 | 219 => 69 | 217 => 56 | 225 => 73 | 224 => 74 | 267 => 75 | 266 => 65 | 314 => 76 | n => n, fun | 9 => 9 | 3 => 3 | 4 => 4 | 5 => 5 | 0 => 0 | 46 => 49 | 146 => 108 | 51 => 24 | n => n, fun | 1 => 0 | n => n⟩
theorem Tryd.lays138 : Go.Proofs.Lays.n138 Tryd.prog Tryd.lays138_ren := {
  mixed := by kernel_rfl
  f138 := Tryd.func58.trans (congrArg some (by kernel_rfl))
  f143 := Tryd.func59.trans (congrArg some (by kernel_rfl))
  f195 := Tryd.func66.trans (congrArg some (by kernel_rfl))
  f217 := Tryd.func56.trans (congrArg some (by kernel_rfl))
  f218 := Tryd.func68.trans (congrArg some (by kernel_rfl))
  f219 := Tryd.func69.trans (congrArg some (by kernel_rfl))
  f224 := Tryd.func74.trans (congrArg some (by kernel_rfl))
  f225 := Tryd.func73.trans (congrArg some (by kernel_rfl))
  f266 := Tryd.func65.trans (congrArg some (by kernel_rfl))
  f267 := Tryd.func75.trans (congrArg some (by kernel_rfl))
  f314 := Tryd.func76.trans (congrArg some (by kernel_rfl))
  t0 := Tryd.underlying0
  a0 := Tryd.isAgg0
  z0 := Tryd.sizeOf0
  v0 := Tryd.zeroValue0
  t3 := Tryd.underlying3
  a3 := Tryd.isAgg3
  z3 := Tryd.sizeOf3
  v3 := Tryd.zeroValue3
  t4 := Tryd.underlying4
  a4 := Tryd.isAgg4
  z4 := Tryd.sizeOf4
  v4 := Tryd.zeroValue4
  t5 := Tryd.underlying5
  a5 := Tryd.isAgg5
  z5 := Tryd.sizeOf5
  v5 := Tryd.zeroValue5
  t9 := Tryd.underlying9
  a9 := Tryd.isAgg9
  z9 := Tryd.sizeOf9
  v9 := Tryd.zeroValue9
  t46 := Tryd.underlying49
  a46 := Tryd.isAgg49
  z46 := Tryd.sizeOf49
  v46 := Tryd.zeroValue49
  t51 := Tryd.underlying24
  a51 := Tryd.isAgg24
  z51 := Tryd.sizeOf24
  v51 := Tryd.zeroValue24
  t146 := Tryd.underlying108
  a146 := Tryd.isAgg108
  z146 := Tryd.sizeOf108
  v146 := Tryd.zeroValue108
  g1 := by kernel_rfl }
open Go.RowKit Go.Lib in
theorem Tryd.strings_Count_one (s : ByteArray) (c : UInt8) (w : World) :
    Calls Tryd.prog 58 #[.string s, .string ⟨#[c]⟩] w fun e w' => e = .returned (.int .i64 (Lib.countByte s.data.toList c)) ∧ w' = w := Any.strings_Count_one Tryd.lays138 s c w
open Go.RowKit Go.Lib in
theorem Tryd.strings_Count (s sub : ByteArray) (m : Int) (w : World) (hs : s.size < 4294967281) (hm : w.cell? ⟨0, 0, none⟩ = some (.int .i64 m)) (h2 : 2 ≤ sub.size) :
    Calls Tryd.prog 58 #[.string s, .string sub] w fun e w' => e = .returned (.int .i64 (Lib.countB s sub)) ∧ w' = w := Any.strings_Count Tryd.lays138 s sub m w hs hm h2
def Tryd.lays221_ren : Go.Shelf.Ren := ⟨fun | 221 => 43 | 268 => 57 | 138 => 58 | 143 => 59 | 195 => 66 | 197 => 67 | 218 => 68 | 219 => 69 | 260 => 72 | 217 => 56 | 225 => 73 | 224 => 74 | 267 => 75 | 266 => 65 | 314 => 76 | n => n, fun | 9 => 9 | 3 => 3 | 31 => 55 | 4 => 4 | 0 => 0 | 105 => 98 | 21 => 21 | 5 => 5 | 46 => 49 | 119 => 104 | 139 => 107 | 138 => 106 | 146 => 108 | 51 => 24 | n => n, fun | 1 => 0 | 3 => 1 | 4 => 2 | n => n⟩
theorem Tryd.lays221 : Go.Proofs.Lays.n221 Tryd.prog Tryd.lays221_ren := {
  mixed := by kernel_rfl
  f138 := Tryd.func58.trans (congrArg some (by kernel_rfl))
  f143 := Tryd.func59.trans (congrArg some (by kernel_rfl))
  f195 := Tryd.func66.trans (congrArg some (by kernel_rfl))
  f197 := Tryd.func67.trans (congrArg some (by kernel_rfl))
  f217 := Tryd.func56.trans (congrArg some (by kernel_rfl))
  f218 := Tryd.func68.trans (congrArg some (by kernel_rfl))
  f219 := Tryd.func69.trans (congrArg some (by kernel_rfl))
  f221 := Tryd.func43.trans (congrArg some (by kernel_rfl))
  f224 := Tryd.func74.trans (congrArg some (by kernel_rfl))
  f225 := Tryd.func73.trans (congrArg some (by kernel_rfl))
  f260 := Tryd.func72.trans (congrArg some (by kernel_rfl))
  f266 := Tryd.func65.trans (congrArg some (by kernel_rfl))
  f267 := Tryd.func75.trans (congrArg some (by kernel_rfl))
  f268 := Tryd.func57.trans (congrArg some (by kernel_rfl))
  f314 := Tryd.func76.trans (congrArg some (by kernel_rfl))
  t0 := Tryd.underlying0
  a0 := Tryd.isAgg0
  z0 := Tryd.sizeOf0
  v0 := Tryd.zeroValue0
  t3 := Tryd.underlying3
  a3 := Tryd.isAgg3
  z3 := Tryd.sizeOf3
  v3 := Tryd.zeroValue3
  t4 := Tryd.underlying4
  a4 := Tryd.isAgg4
  z4 := Tryd.sizeOf4
  v4 := Tryd.zeroValue4
  t5 := Tryd.underlying5
  a5 := Tryd.isAgg5
  z5 := Tryd.sizeOf5
  v5 := Tryd.zeroValue5
  t9 := Tryd.underlying9
  a9 := Tryd.isAgg9
  z9 := Tryd.sizeOf9
  v9 := Tryd.zeroValue9
  t21 := Tryd.underlying21
  a21 := Tryd.isAgg21
  z21 := Tryd.sizeOf21
  v21 := Tryd.zeroValue21
  t31 := Tryd.underlying55
  a31 := Tryd.isAgg55
  z31 := Tryd.sizeOf55
  v31 := Tryd.zeroValue55
  t46 := Tryd.underlying49
  a46 := Tryd.isAgg49
  z46 := Tryd.sizeOf49
  v46 := Tryd.zeroValue49
  t51 := Tryd.underlying24
  a51 := Tryd.isAgg24
  z51 := Tryd.sizeOf24
  v51 := Tryd.zeroValue24
  t105 := Tryd.underlying98
  a105 := Tryd.isAgg98
  z105 := Tryd.sizeOf98
  v105 := Tryd.zeroValue98
  t119 := Tryd.underlying104
  a119 := Tryd.isAgg104
  z119 := Tryd.sizeOf104
  t138 := Tryd.underlying106
  a138 := Tryd.isAgg106
  z138 := Tryd.sizeOf106
  v138 := Tryd.zeroValue106
  t139 := Tryd.underlying107
  a139 := Tryd.isAgg107
  z139 := Tryd.sizeOf107
  v139 := Tryd.zeroValue107
  t146 := Tryd.underlying108
  a146 := Tryd.isAgg108
  z146 := Tryd.sizeOf108
  v146 := Tryd.zeroValue108
  g1 := by kernel_rfl
  g3 := by kernel_rfl
  g4 := by kernel_rfl }
open Go.RowKit Go.Lib in
theorem Tryd.strings_genSplit (s sep : ByteArray) (sv : Nat) (n : Int) (N : Nat) (m : Int) (w : World) (hs : s.size < 4294967281) (hm : w.cell? ⟨0, 0, none⟩ = some (.int .i64 m)) (h1 : 1 ≤ sep.size) (hsv : sv ≤ sep.size) (hn0 : n ≠ 0) (hn63 : n ≤ 9223372036854775807) (hN : (N : Int) = min (if n < 0 then (Lib.countB s sep : Int) + 1 else n) ((s.size : Int) + 1)) :
    Calls Tryd.prog 43 #[.string s, .string sep, .int .i64 sv, .int .i64 n] w fun e w' =>
      e = .returned (.slice (some ⟨w.heap.size, 0, none⟩) (Lib.splitB sep sv (N - 1) s).length N) ∧ w' = w.alloc (.cells (Lib.cellsOf (Lib.splitB sep sv (N - 1) s) N) 9) := Any.strings_genSplit Tryd.lays221 (by kernel_rfl) s sep sv n N m w hs hm h1 hsv hn0 hn63 hN
def Tryd.lays146_ren : Go.Shelf.Ren := ⟨fun | 146 => 27 | 221 => 43 | 268 => 57 | 138 => 58 | 143 => 59 | 195 => 66 | 197 => 67 | 218 => 68 | 219 => 69 | 260 => 72 | 217 => 56 | 225 => 73 | 224 => 74 | 267 => 75 | 266 => 65 | 314 => 76 | n => n, fun | 9 => 9 | 31 => 55 | 3 => 3 | 4 => 4 | 0 => 0 | 105 => 98 | 21 => 21 | 5 => 5 | 46 => 49 | 119 => 104 | 139 => 107 | 138 => 106 | 146 => 108 | 51 => 24 | n => n, fun | 1 => 0 | 3 => 1 | 4 => 2 | n => n⟩
theorem Tryd.lays146 : Go.Proofs.Lays.n146 Tryd.prog Tryd.lays146_ren := {
  mixed := by kernel_rfl
  f138 := Tryd.func58.trans (congrArg some (by kernel_rfl))
  f143 := Tryd.func59.trans (congrArg some (by kernel_rfl))
  f146 := Tryd.func27.trans (congrArg some (by kernel_rfl))
  f195 := Tryd.func66.trans (congrArg some (by kernel_rfl))
  f197 := Tryd.func67.trans (congrArg some (by kernel_rfl))
  f217 := Tryd.func56.trans (congrArg some (by kernel_rfl))
  f218 := Tryd.func68.trans (congrArg some (by kernel_rfl))
  f219 := Tryd.func69.trans (congrArg some (by kernel_rfl))
  f221 := Tryd.func43.trans (congrArg some (by kernel_rfl))
  f224 := Tryd.func74.trans (congrArg some (by kernel_rfl))
  f225 := Tryd.func73.trans (congrArg some (by kernel_rfl))
  f260 := Tryd.func72.trans (congrArg some (by kernel_rfl))
  f266 := Tryd.func65.trans (congrArg some (by kernel_rfl))
  f267 := Tryd.func75.trans (congrArg some (by kernel_rfl))
  f268 := Tryd.func57.trans (congrArg some (by kernel_rfl))
  f314 := Tryd.func76.trans (congrArg some (by kernel_rfl))
  t0 := Tryd.underlying0
  a0 := Tryd.isAgg0
  z0 := Tryd.sizeOf0
  v0 := Tryd.zeroValue0
  t3 := Tryd.underlying3
  a3 := Tryd.isAgg3
  z3 := Tryd.sizeOf3
  v3 := Tryd.zeroValue3
  t4 := Tryd.underlying4
  a4 := Tryd.isAgg4
  z4 := Tryd.sizeOf4
  v4 := Tryd.zeroValue4
  t5 := Tryd.underlying5
  a5 := Tryd.isAgg5
  z5 := Tryd.sizeOf5
  v5 := Tryd.zeroValue5
  t9 := Tryd.underlying9
  a9 := Tryd.isAgg9
  z9 := Tryd.sizeOf9
  v9 := Tryd.zeroValue9
  t21 := Tryd.underlying21
  a21 := Tryd.isAgg21
  z21 := Tryd.sizeOf21
  v21 := Tryd.zeroValue21
  t31 := Tryd.underlying55
  a31 := Tryd.isAgg55
  z31 := Tryd.sizeOf55
  v31 := Tryd.zeroValue55
  t46 := Tryd.underlying49
  a46 := Tryd.isAgg49
  z46 := Tryd.sizeOf49
  v46 := Tryd.zeroValue49
  t51 := Tryd.underlying24
  a51 := Tryd.isAgg24
  z51 := Tryd.sizeOf24
  v51 := Tryd.zeroValue24
  t105 := Tryd.underlying98
  a105 := Tryd.isAgg98
  z105 := Tryd.sizeOf98
  v105 := Tryd.zeroValue98
  t119 := Tryd.underlying104
  a119 := Tryd.isAgg104
  z119 := Tryd.sizeOf104
  t138 := Tryd.underlying106
  a138 := Tryd.isAgg106
  z138 := Tryd.sizeOf106
  v138 := Tryd.zeroValue106
  t139 := Tryd.underlying107
  a139 := Tryd.isAgg107
  z139 := Tryd.sizeOf107
  v139 := Tryd.zeroValue107
  t146 := Tryd.underlying108
  a146 := Tryd.isAgg108
  z146 := Tryd.sizeOf108
  v146 := Tryd.zeroValue108
  g1 := by kernel_rfl
  g3 := by kernel_rfl
  g4 := by kernel_rfl }
open Go.RowKit Go.Lib in
theorem Tryd.strings_Split (s sep : ByteArray) (m : Int) (w : World) (hs : s.size < 4294967281) (hm : w.cell? ⟨0, 0, none⟩ = some (.int .i64 m)) (h1 : 1 ≤ sep.size) :
    Calls Tryd.prog 27 #[.string s, .string sep] w fun e w' =>
      e = .returned (.slice (some ⟨w.heap.size, 0, none⟩) (Lib.countB s sep + 1) (Lib.countB s sep + 1)) ∧ w' = w.alloc (.cells ((Lib.splitB sep 0 (Lib.countB s sep) s).map Value.string).toArray 9) := Any.strings_Split Tryd.lays146 (by kernel_rfl) s sep m w hs hm h1
end Go.Proofs
end
section
namespace Go.Proofs.YtnagecfpbkffpaaDoor.P
open Go.RowKit Go.Proofs.YtnagecfpbkffpaaDoorW.PrintWords Go.Proofs.YtnagecfpbkffpaaDoorW.PrintLast Go.Proofs.YtnagecfpbkffpaaDoorW.PrintMore
set_option linter.unusedVariables false
def strings_IndexByte.f (a0 : ByteArray) (a1 : Int) : Option Int := some (Lib.indexByte a0.data.toList a1.toNat.toUInt8)
theorem strings_IndexByte.calls (a0 : ByteArray) (a1 : Int) (r : Int) (w : World) (h : strings_IndexByte.f a0 a1 = some r) :
    Calls Tryd.prog 39 #[.string a0, .int .u8 a1] w fun e w' => e = .returned (.int .i64 r) ∧ Drawn0 w w' := by
  obtain rfl : Lib.indexByte a0.data.toList a1.toNat.toUInt8 = r := by simpa [strings_IndexByte.f] using h
  refine (Tryd.strings_IndexByte a0 a1 w).mono ?_
  rintro e w' ⟨rfl, rfl⟩
  exact ⟨rfl, Drawn0.refl _⟩
def stringslite_Index.f (a0 : ByteArray) (a1 : ByteArray) : Option Int := if a1.size = 1 then some (Lib.indexByte a0.data.toList (bt a1 0).toNat.toUInt8) else none
theorem one_byte (a : ByteArray) (h : a.size = 1) : a = ⟨#[(bt a 0).toNat.toUInt8]⟩ := by
  obtain ⟨⟨l⟩⟩ := a
  match l, h with
  | [b], _ =>
    have : (bt ⟨⟨[b]⟩⟩ 0).toNat.toUInt8 = b := by
      unfold bt
      rw [dif_pos (show Int.toNat 0 < ByteArray.size ⟨⟨[b]⟩⟩ from Nat.zero_lt_one)]
      simp [ByteArray.getElem_eq_getElem_data]
    rw [this]
theorem stringslite_Index.calls (a0 : ByteArray) (a1 : ByteArray) (r : Int) (w : World) (h : stringslite_Index.f a0 a1 = some r) :
    Calls Tryd.prog 69 #[.string a0, .string a1] w fun e w' => e = .returned (.int .i64 r) ∧ Drawn0 w w' := by
  unfold stringslite_Index.f at h
  by_cases h1 : a1.size = 1
  · rw [if_pos h1] at h
    obtain rfl : Lib.indexByte a0.data.toList (bt a1 0).toNat.toUInt8 = r := by simpa using h
    have e1 := one_byte a1 h1
    generalize (bt a1 0).toNat.toUInt8 = b at e1 ⊢
    subst e1
    refine (Tryd.stringslite_Index_one a0 b w).mono ?_
    rintro e w' ⟨rfl, rfl⟩
    exact ⟨rfl, Drawn0.refl _⟩
  · rw [if_neg h1] at h
    exact absurd h (by simp)
def strings_Join.f (l0 : List ByteArray) (a1 : ByteArray) : Option ByteArray := if l0.length ≤ 140737488355328 ∧ (Lib.join (l0.map (·.data.toList)) a1.data.toList).length ≤ 140737488355328 then some ⟨(Lib.join (l0.map (·.data.toList)) a1.data.toList).toArray⟩ else none
theorem strings_Join.calls (A0 : Option Addr) (c0 : Nat) (l0 : List ByteArray) (a1 : ByteArray) (r : ByteArray) (w : World) (hr0 : Kd.C Kd.string w A0 l0.length l0) (hc0 : l0.length ≤ c0) (h : strings_Join.f l0 a1 = some r) :
    Calls Tryd.prog 38 #[.slice A0 l0.length c0, .string a1] w fun e w' => e = .returned (.string r) ∧ Below w.heap.size w w' := by
  unfold strings_Join.f at h
  by_cases hl : l0.length ≤ 140737488355328 ∧ (Lib.join (l0.map (·.data.toList)) a1.data.toList).length ≤ 140737488355328
  · rw [if_pos hl] at h
    obtain rfl : (⟨(Lib.join (l0.map (·.data.toList)) a1.data.toList).toArray⟩ : ByteArray) = r := by simpa using h
    cases l0 with
    | nil =>
      refine (Tryd.strings_Join_none A0 c0 a1 w).mono ?_
      rintro e w' ⟨rfl, rfl⟩
      exact ⟨by simp [Lib.join_nil], Below.refl _ _⟩
    | cons x xs =>
      have hat := fun (i : Int) (h0 : 0 ≤ i) (h1 : i < ((x :: xs).length : Nat)) => Kd.at_string hr0 i h0 h1
      obtain ⟨ad, rfl, h0⟩ := hat 0 (by omega) (by simp)
      have hb := World.block_lt_of_cell? w _ h0
      obtain ⟨bk, o, sp⟩ := ad
      have hsp : sp = none := by
        cases sp with
        | none => rfl
        | some q =>
          exfalso
          rw [Int.toNat_zero] at h0
          have ha : (⟨bk, o, some q⟩ : Addr).add 0 = ⟨bk, o, some q⟩ := by simp [Addr.add]
          rw [ha] at h0
          unfold World.cell? at h0
          split at h0 <;> simp at h0
      subst hsp
      rw [add_at] at hb
      refine (Tryd.strings_Join bk o c0 (x :: xs) a1 w ?_ hb hl.1 hc0 hl.2).mono fun e w' h => h
      intro j y hj
      have hjl : j < (x :: xs).length := (List.getElem?_eq_some_iff.1 hj).1
      obtain ⟨ad', he, hcell⟩ := hat j (by omega) (by omega)
      injection he with he
      subst he
      rw [add_at, Int.toNat_natCast] at hcell
      rw [hcell]
      simp [rdOf, hj]
  · rw [if_neg hl] at h
    exact absurd h (by simp)
end Go.Proofs.YtnagecfpbkffpaaDoor.P
end
section
namespace Go.Proofs.YtnagecfpbkffpaaDoor.P
open Go.RowKit Go.Proofs.YtnagecfpbkffpaaDoorW.PrintWords Go.Proofs.YtnagecfpbkffpaaDoorW.PrintLast Go.Proofs.YtnagecfpbkffpaaDoorW.PrintMore
attribute [local go_sem] max2_int min2_int max_two min_two max_three min_three max_four min_four   -- for this text's walks alone
set_option linter.unusedVariables false
set_option linter.unusedSimpArgs false
mutual
def clock_Weeks.l0 : Nat → Int → List ByteArray → Int → Option (ByteArray)
  | 0, _, _, _ => none
  | k + 1, x0, x3, x4 => if x4 < 20 then (if 0 ≤ x4 then (if (Go.bits .and .u32 (shr .u32 x0 x4) 1) = 0 then (clock_Weeks.l0 k x0 x3 (wrap64 (x4 + 1))) else (clock_Weeks.l1 k x0 x3 x4 x4)) else (none)) else ((strings_Join.f x3 (⟨#[44]⟩ : ByteArray)).bind fun t103 => (some t103))
def clock_Weeks.j2 : Nat → Int → List ByteArray → Int → Int → Option (ByteArray)
  | 0, _, _, _, _ => none
  | k + 1, x0, x3, x4, x5 => (digits_Print.f (wrap64 (x5 + 1))).bind fun t104 => (if x4 > x5 then ((digits_Print.f (wrap64 (x4 + 1))).bind fun t105 => (if 1 + t105.size ≤ 9223372036854775807 then (if t104.size + ((⟨#[45]⟩ : ByteArray) ++ t105).size ≤ 9223372036854775807 then (if x3.length < 8796093022208 then (clock_Weeks.l0 k x0 (x3 ++ [t104 ++ ((⟨#[45]⟩ : ByteArray) ++ t105)]) (wrap64 (x4 + 1))) else (none)) else (none)) else (none))) else (if x3.length < 8796093022208 then (clock_Weeks.l0 k x0 (x3 ++ [t104]) (wrap64 (x4 + 1))) else (none)))
def clock_Weeks.l1 : Nat → Int → List ByteArray → Int → Int → Option (ByteArray)
  | 0, _, _, _, _ => none
  | k + 1, x0, x3, x4, x5 => if (wrap64 (x4 + 1)) < 20 then (if 0 ≤ (wrap64 (x4 + 1)) then (if (Go.bits .and .u32 (shr .u32 x0 (wrap64 (x4 + 1))) 1) = 1 then (clock_Weeks.l1 k x0 x3 (wrap64 (x4 + 1)) x5) else (clock_Weeks.j2 k x0 x3 x4 x5)) else (none)) else (clock_Weeks.j2 k x0 x3 x4 x5)
end
def clock_Weeks.f (k : Nat) (a0 : Int) : Option (ByteArray) := clock_Weeks.l0 k a0 ([] : List ByteArray) 0
theorem clock_Weeks.mono_l : ∀ k, (∀ y0 y1 y2, LeO (clock_Weeks.l0 k y0 y1 y2) (clock_Weeks.l0 (k + 1) y0 y1 y2)) ∧ (∀ y0 y1 y2 y3, LeO (clock_Weeks.j2 k y0 y1 y2 y3) (clock_Weeks.j2 (k + 1) y0 y1 y2 y3)) ∧ (∀ y0 y1 y2 y3, LeO (clock_Weeks.l1 k y0 y1 y2 y3) (clock_Weeks.l1 (k + 1) y0 y1 y2 y3))
  | 0 => ⟨fun _ _ _ r h => by simp [clock_Weeks.l0] at h, fun _ _ _ _ r h => by simp [clock_Weeks.j2] at h, fun _ _ _ _ r h => by simp [clock_Weeks.l1] at h⟩
  | k + 1 => by
    obtain ⟨ih0, ih1, ih2⟩ := clock_Weeks.mono_l k
    refine ⟨?_, ?_, ?_⟩
    · intro y0 y1 y2
      unfold clock_Weeks.l0
      repeat' first
      | (with_reducible exact ih0 _ _ _)
      | (with_reducible exact ih1 _ _ _ _)
      | (with_reducible exact ih2 _ _ _ _)
      | (with_reducible exact LeO.refl _)
      | (with_reducible exact LeO.none _)
      | (with_reducible refine LeO.ite ?_ ?_)
      | (with_reducible refine LeO.bind ?_ (fun _ => ?_))
      | exact ih0 _ _ _
      | exact ih1 _ _ _ _
      | exact ih2 _ _ _ _
      | exact LeO.none _
      | refine LeO.ite ?_ ?_
      | refine LeO.bind ?_ (fun _ => ?_)
    · intro y0 y1 y2 y3
      unfold clock_Weeks.j2
      repeat' first
      | (with_reducible exact ih0 _ _ _)
      | (with_reducible exact ih1 _ _ _ _)
      | (with_reducible exact ih2 _ _ _ _)
      | (with_reducible exact LeO.refl _)
      | (with_reducible exact LeO.none _)
      | (with_reducible refine LeO.ite ?_ ?_)
      | (with_reducible refine LeO.bind ?_ (fun _ => ?_))
      | exact ih0 _ _ _
      | exact ih1 _ _ _ _
      | exact ih2 _ _ _ _
      | exact LeO.none _
      | refine LeO.ite ?_ ?_
      | refine LeO.bind ?_ (fun _ => ?_)
    · intro y0 y1 y2 y3
      unfold clock_Weeks.l1
      repeat' first
      | (with_reducible exact ih0 _ _ _)
      | (with_reducible exact ih1 _ _ _ _)
      | (with_reducible exact ih2 _ _ _ _)
      | (with_reducible exact LeO.refl _)
      | (with_reducible exact LeO.none _)
      | (with_reducible refine LeO.ite ?_ ?_)
      | (with_reducible refine LeO.bind ?_ (fun _ => ?_))
      | exact ih0 _ _ _
      | exact ih1 _ _ _ _
      | exact ih2 _ _ _ _
      | exact LeO.none _
      | refine LeO.ite ?_ ?_
      | refine LeO.bind ?_ (fun _ => ?_)
theorem clock_Weeks.mono : ∀ a0 k, LeO (clock_Weeks.f k a0) (clock_Weeks.f (k + 1) a0) := by
  intro a0 k
  obtain ⟨ih0, ih1, ih2⟩ := clock_Weeks.mono_l k
  unfold clock_Weeks.f
  repeat' first
      | (with_reducible exact ih0 _ _ _)
      | (with_reducible exact ih1 _ _ _ _)
      | (with_reducible exact ih2 _ _ _ _)
      | (with_reducible exact LeO.refl _)
      | (with_reducible exact LeO.none _)
      | (with_reducible refine LeO.ite ?_ ?_)
      | (with_reducible refine LeO.bind ?_ (fun _ => ?_))
      | exact ih0 _ _ _
      | exact ih1 _ _ _ _
      | exact ih2 _ _ _ _
      | exact LeO.none _
      | refine LeO.ite ?_ ?_
      | refine LeO.bind ?_ (fun _ => ?_)
set_option maxHeartbeats 8000000 in
set_option maxRecDepth 100000 in
theorem clock_Weeks.calls (k : Nat) (a0 : Int) (r : ByteArray) (w : World) (h : clock_Weeks.f k a0 = some r) :
    Calls Tryd.prog 18 #[.int .u32 a0] w fun e w' => e = .returned (.string r) ∧ Below w.heap.size w w' := by
  have HB := Aside0.mk (Below.refl w.heap.size w)
  have H : (clock_Weeks.l0 k a0 ([] : List ByteArray) 0) = some r := h
  clear h
  have H' := Aside0.mk H
  clear H
  go_enter Tryd.func18, Tryd.ntmps18
  go_wp2
  go_loopg [3, 4] k (fun kq v3 v4 w' => ∃ (x3_1 : List ByteArray) (x4_1 : Int), v4 = .int .i64 x4_1 ∧ Aside0 (clock_Weeks.l0 kq a0 x3_1 x4_1 = some r) ∧ Aside0 (kq ≤ k) ∧ Aside0 (Kd.R Kd.string 9 w' w.heap.size (fun _ => True) v3 x3_1) ∧ Aside0 (Below w.heap.size w w'))
  case atStart => exact ⟨(([] : List ByteArray)), (0), (by first | rfl | (simp; done) | (simp [*]; done)), H', ⟨Nat.le_refl _⟩, ⟨by first | exact Kd.R_nil _ _ _ _ _ | exact Kd.N_nil _ _ _ _ _ | exact Kd.V_nil _ _ _ _ _ | exact Kd.Q_nil _ _ _ _ _ | exact Kd.S_nil _ _ _ _ _⟩, ⟨by repeat (first | (with_reducible first | exact HB.out | apply below_alloc | apply pw_below_drewN | apply below_drew1) | exact HB.out)⟩⟩
  case round =>
    clear H'
    try clear c1
    obtain ⟨x3_1, x4_1, rfl, HA, HK1, HO_3, HB⟩ := hrel
    cases gk with
    | zero => exact absurd HA.out (by simp [clock_Weeks.l0])
    | succ k1 =>
      have H := HA.out
      clear HA
      simp only [clock_Weeks.l0] at H
      by_cases c2 : x4_1 < 20
      · rw [if_pos c2] at H
        have c2b0 : decide (x4_1 < 20) = true := decide_eq_true c2
        clear c2
        by_cases c3 : 0 ≤ x4_1
        · rw [if_pos c3] at H
          have c3b0 := eq_true c3
          have c3b1 : decide (0 ≤ x4_1) = true := decide_eq_true c3
          clear c3
          obtain ⟨ji4, hji4⟩ : ∃ j_ : Int, (shr .u32 a0 x4_1) = j_ := ⟨_, rfl⟩
          replace H : (if (Go.bits .and .u32 (ji4) 1) = 0 then (clock_Weeks.l0 k1 a0 x3_1 (wrap64 (x4_1 + 1))) else (clock_Weeks.l1 k1 a0 x3_1 x4_1 x4_1)) = some r := by first | (rw [hji4] at H; exact H) | (simp only [hji4] at H ⊢; exact H)
          have hji4_ : (a0 / 2 ^ min x4_1.toNat 32) = ji4 := hji4
          have hji4z : x4_1 ≤ 32 → (a0 / 2 ^ x4_1.toNat) = ji4 := shr_small hji4
          by_cases c5 : (Go.bits .and .u32 (ji4) 1) = 0
          · rw [if_pos c5] at H
            have c5b0 : ((Go.bits .and .u32 (ji4) 1) == 0) = true := beq_iff_eq.mpr c5
            have c5b1 : ((Go.bits .and .u32 (ji4) 1) != 0) = false := bne_eq_false_iff_eq.mpr c5
            clear c5
            have H' := Aside0.mk H
            clear H
            go_wp2
            go_roundg k1
            case measure => have := HK1.out; omega
            case rel => exact ⟨(x3_1), (wrap64 (x4_1 + 1)), (by first | rfl | (simp; done) | (simp [*]; done)), H', ⟨by have := HK1.out; omega⟩, ⟨by (with_reducible repeat (first | apply Kd.R_alloc | apply Kd.R_drewN | apply Kd.R_drew)); exact HO_3.out⟩, ⟨by repeat (first | (with_reducible first | exact HB.out | apply below_alloc | apply pw_below_drewN | apply below_drew1) | exact HB.out)⟩⟩
          · rw [if_neg c5] at H
            have c5b0 : ((Go.bits .and .u32 (ji4) 1) == 0) = false := beq_eq_false_iff_ne.mpr c5
            have c5b1 : ((Go.bits .and .u32 (ji4) 1) != 0) = true := bne_iff_ne.mpr c5
            have HC6 := Aside0.mk H
            clear H
            go_upto_block 2 with (fail)
            go_cut [4] (fun v4 wc => ∃ (kq : Nat) (x4_5 : Int), v4 = .int .i64 x4_5 ∧ Aside0 (clock_Weeks.j2 kq a0 x3_1 x4_5 x4_1 = some r) ∧ Aside0 (kq ≤ k1) ∧ Aside0 (Kd.R Kd.string 9 wc w.heap.size (fun _ => True) u3 x3_1) ∧ Aside0 (Below w.heap.size w wc))
            case first =>
              have H := HC6.out
              clear HC6
              have H' := Aside0.mk H
              clear H
              go_wp2
              go_loopg [4] k1 (fun kq v4 w' => ∃ (x4_2 : Int), v4 = .int .i64 x4_2 ∧ Aside0 (clock_Weeks.l1 kq a0 x3_1 x4_2 x4_1 = some r) ∧ Aside0 (kq ≤ k1) ∧ Aside0 (Kd.R Kd.string 9 w' w.heap.size (fun _ => True) u3 x3_1) ∧ Aside0 (Below w.heap.size w w'))
              case atStart => exact ⟨(x4_1), (by first | rfl | (simp; done) | (simp [*]; done)), H', ⟨Nat.le_refl _⟩, ⟨by (with_reducible repeat (first | apply Kd.R_alloc | apply Kd.R_drewN | apply Kd.R_drew)); exact HO_3.out⟩, ⟨by repeat (first | (with_reducible first | exact HB.out | apply below_alloc | apply pw_below_drewN | apply below_drew1) | exact HB.out)⟩⟩
              case round =>
                clear H'
                try clear c1
                try clear c2
                try clear c2b0
                try clear p2
                try clear c3
                try clear c3b0
                try clear c3b1
                try clear c5
                try clear c5b0
                try clear c5b1
                try clear p6
                obtain ⟨x4_2, rfl, HA, HK2, HO_3, HB⟩ := hrel
                cases gk with
                | zero => exact absurd HA.out (by simp [clock_Weeks.l1])
                | succ k2 =>
                  have H := HA.out
                  clear HA
                  simp only [clock_Weeks.l1] at H
                  by_cases c7 : (wrap64 (x4_2 + 1)) < 20
                  · rw [if_pos c7] at H
                    have c7b0 : decide ((wrap64 (x4_2 + 1)) < 20) = true := decide_eq_true c7
                    clear c7
                    (first | rw [c7b0] | (simp only [i64_w, i32_w]; rw [c7b0]) | skip)
                    obtain ⟨ji8, hji8⟩ : ∃ j_ : Int, (wrap64 (x4_2 + 1)) = j_ := ⟨_, rfl⟩
                    replace H : (if 0 ≤ (ji8) then (if (Go.bits .and .u32 (shr .u32 a0 (ji8)) 1) = 1 then (clock_Weeks.l1 k2 a0 x3_1 ji8 x4_1) else (clock_Weeks.j2 k2 a0 x3_1 x4_2 x4_1)) else (none)) = some r := by first | (rw [hji8] at H; exact H) | (simp only [hji8] at H ⊢; exact H)
                    (try rw [hji8] at c7b0)
                    have hji8w : (IntKind.i64.wrap (x4_2 + 1)) = ji8 := (i64_w _).trans hji8
                    by_cases c9 : 0 ≤ (ji8)
                    · rw [if_pos c9] at H
                      have c9b0 := eq_true c9
                      have c9b1 : decide (0 ≤ (ji8)) = true := decide_eq_true c9
                      clear c9
                      obtain ⟨ji10, hji10⟩ : ∃ j_ : Int, (shr .u32 a0 (ji8)) = j_ := ⟨_, rfl⟩
                      replace H : (if (Go.bits .and .u32 (ji10) 1) = 1 then (clock_Weeks.l1 k2 a0 x3_1 ji8 x4_1) else (clock_Weeks.j2 k2 a0 x3_1 x4_2 x4_1)) = some r := by first | (rw [hji10] at H; exact H) | (simp only [hji10] at H ⊢; exact H)
                      have hji10_ : (a0 / 2 ^ min (ji8).toNat 32) = ji10 := hji10
                      have hji10z : (ji8) ≤ 32 → (a0 / 2 ^ (ji8).toNat) = ji10 := shr_small hji10
                      by_cases c11 : (Go.bits .and .u32 (ji10) 1) = 1
                      · rw [if_pos c11] at H
                        have c11b0 : ((Go.bits .and .u32 (ji10) 1) == 1) = true := beq_iff_eq.mpr c11
                        have c11b1 : ((Go.bits .and .u32 (ji10) 1) != 1) = false := bne_eq_false_iff_eq.mpr c11
                        clear c11
                        have H' := Aside0.mk H
                        clear H
                        go_wp2
                        go_roundg k2
                        case measure => have := HK1.out; have := HK2.out; omega
                        case rel => exact ⟨(ji8), (by first | rfl | (simp; done) | (simp only [← hji8] <;> (first | rfl | simp)) | (simp [*]; done)), H', ⟨by have := HK1.out; have := HK2.out; omega⟩, ⟨by (with_reducible repeat (first | apply Kd.R_alloc | apply Kd.R_drewN | apply Kd.R_drew)); exact HO_3.out⟩, ⟨by repeat (first | (with_reducible first | exact HB.out | apply below_alloc | apply pw_below_drewN | apply below_drew1) | exact HB.out)⟩⟩
                      · rw [if_neg c11] at H
                        have c11b0 : ((Go.bits .and .u32 (ji10) 1) == 1) = false := beq_eq_false_iff_ne.mpr c11
                        have c11b1 : ((Go.bits .and .u32 (ji10) 1) != 1) = true := bne_iff_ne.mpr c11
                        have H' := Aside0.mk H
                        clear H
                        go_wp2
                        go_meet
                        case rel => exact ⟨_, (x4_2), (by first | rfl | (simp; done) | (simp [*]; done)), H', ⟨by have := HK1.out; have := HK2.out; first | omega | exact Nat.le_refl _⟩, ⟨by (with_reducible repeat (first | apply Kd.R_alloc | apply Kd.R_drewN | apply Kd.R_drew)); exact HO_3.out⟩, ⟨by repeat (first | (with_reducible first | exact HB.out | apply below_alloc | apply pw_below_drewN | apply below_drew1) | exact HB.out)⟩⟩
                    · rw [if_neg c9] at H
                      exact absurd H (by simp)
                  · rw [if_neg c7] at H
                    have c7b0 : decide ((wrap64 (x4_2 + 1)) < 20) = false := decide_eq_false c7
                    clear c7
                    (first | rw [c7b0] | (simp only [i64_w, i32_w]; rw [c7b0]) | skip)
                    have H' := Aside0.mk H
                    clear H
                    go_wp2
                    go_meet
                    case rel => exact ⟨_, (x4_2), (by first | rfl | (simp; done) | (simp [*]; done)), H', ⟨by have := HK1.out; have := HK2.out; first | omega | exact Nat.le_refl _⟩, ⟨by (with_reducible repeat (first | apply Kd.R_alloc | apply Kd.R_drewN | apply Kd.R_drew)); exact HO_3.out⟩, ⟨by repeat (first | (with_reducible first | exact HB.out | apply below_alloc | apply pw_below_drewN | apply below_drew1) | exact HB.out)⟩⟩
            case rest =>
              clear HC6
              try clear c1
              try clear c2
              try clear c2b0
              try clear p2
              try clear c3
              try clear c3b0
              try clear c3b1
              try clear c5
              try clear c5b0
              try clear c5b1
              try clear p6
              try clear c7
              try clear c7b0
              try clear c9
              try clear c9b0
              try clear c9b1
              try clear c11
              try clear c11b0
              try clear c11b1
              try clear p2
              try clear p6
              obtain ⟨kq, x4_5, rfl, HA, HJ5, HO_3, HB⟩ := hcut
              cases kq with
              | zero => exact absurd HA.out (by simp [clock_Weeks.j2])
              | succ kj5 =>
                have H := HA.out
                clear HA
                simp only [clock_Weeks.j2] at H
                replace H := Option.bind_eq_some_iff.mp H
                obtain ⟨t104, A120, H⟩ := H
                replace H : (if x4_5 > x4_1 then ((digits_Print.f (wrap64 (x4_5 + 1))).bind fun t105 => (if 1 + t105.size ≤ 9223372036854775807 then (if t104.size + ((⟨#[45]⟩ : ByteArray) ++ t105).size ≤ 9223372036854775807 then (if x3_1.length < 8796093022208 then (clock_Weeks.l0 kj5 a0 (x3_1 ++ [t104 ++ ((⟨#[45]⟩ : ByteArray) ++ t105)]) (wrap64 (x4_5 + 1))) else (none)) else (none)) else (none))) else (if x3_1.length < 8796093022208 then (clock_Weeks.l0 kj5 a0 (x3_1 ++ [t104]) (wrap64 (x4_5 + 1))) else (none))) = some r := H
                have A12 := Aside0.mk A120
                clear A120
                by_cases c13 : x4_5 > x4_1
                · rw [if_pos c13] at H
                  have c13b0 : decide (x4_1 < x4_5) = true := decide_eq_true c13
                  clear c13
                  replace H := Option.bind_eq_some_iff.mp H
                  obtain ⟨t105, A140, H⟩ := H
                  replace H : (if 1 + t105.size ≤ 9223372036854775807 then (if t104.size + ((⟨#[45]⟩ : ByteArray) ++ t105).size ≤ 9223372036854775807 then (if x3_1.length < 8796093022208 then (clock_Weeks.l0 kj5 a0 (x3_1 ++ [t104 ++ ((⟨#[45]⟩ : ByteArray) ++ t105)]) (wrap64 (x4_5 + 1))) else (none)) else (none)) else (none)) = some r := H
                  have A14 := Aside0.mk A140
                  clear A140
                  by_cases c15 : 1 + t105.size ≤ 9223372036854775807
                  · rw [if_pos c15] at H
                    have c15b0 := eq_true c15
                    have c15b1 : decide (1 + t105.size ≤ 9223372036854775807) = true := decide_eq_true c15
                    try have c15b2 : (9223372036854775807 < 1 + t105.size) = False := eq_false (Nat.not_lt.2 c15)
                    by_cases c16 : t104.size + ((⟨#[45]⟩ : ByteArray) ++ t105).size ≤ 9223372036854775807
                    · rw [if_pos c16] at H
                      have c16b0 := eq_true c16
                      have c16b1 : decide (t104.size + ((⟨#[45]⟩ : ByteArray) ++ t105).size ≤ 9223372036854775807) = true := decide_eq_true c16
                      try have c16b2 : (9223372036854775807 < t104.size + ((⟨#[45]⟩ : ByteArray) ++ t105).size) = False := eq_false (Nat.not_lt.2 c16)
                      try (have c16b5_0 : ((⟨#[45]⟩ : ByteArray) ++ t105).size = 1 + t105.size := by first | exact ByteArray.size_append | (rw [ByteArray.size_append]; done) | (rw [ByteArray.size_append]; rfl) | (simp only [ByteArray.size_append, Nat.add_assoc]; done) | (simp only [ByteArray.size_append, Nat.add_assoc]; rfl))
                      have c16b4 := c16
                      try simp only [c16b5_0] at c16b4
                      try have c16b6 := eq_false (Nat.not_lt.2 c16b4)
                      by_cases c17 : x3_1.length < 8796093022208
                      · rw [if_pos c17] at H
                        have LMc17 := Aside0.mk c17
                        clear c17
                        obtain ⟨y106, hy106⟩ : ∃ y_ : List ByteArray, y_ = (x3_1 ++ [t104 ++ ((⟨#[45]⟩ : ByteArray) ++ t105)]) := ⟨_, rfl⟩
                        replace H : (clock_Weeks.l0 kj5 a0 y106 (wrap64 (x4_5 + 1))) = some r := by first | (rw [hy106]; with_reducible exact H) | (have H2_ := (Option.bind_some _ _).symm.trans H; rw [hy106]; with_reducible exact H2_) | (have H2_ := (Option.bind_some _ _).symm.trans H; with_reducible exact H2_) | with_reducible exact H | (rw [hy106]; exact H) | exact H
                        have Ny106 := Aside0.mk hy106
                        clear hy106
                        have H' := Aside0.mk H
                        clear H
                        go_wp2_with (first | ((with_reducible refine gate_callee (f := 25) rfl ?_); refine goesL_ (some 32) rfl rfl Tryd.func25 (by kernel_rfl) rfl #[.int .i64 (wrap64 (x4_1 + 1))] rfl (by (try simp only [List.map_toArray, List.map_cons, List.map_nil]); first | done | rfl | (simp only [List.length_drop, List.length_take]; rfl)) ?_; (with_reducible refine (digits_Print.calls (wrap64 (x4_1 + 1)) t104 _ A12.out).mono ?_); rintro e w18 ⟨rfl, hb⟩; refine ⟨_, rfl, ?_⟩; have n0_ := Aside0.mk (Kd.R_below (by (with_reducible repeat (first | apply Kd.R_alloc | apply Kd.R_drewN | apply Kd.R_drew)); exact HO_3.out) hb); have n1_ := Aside0.mk (below_step (by repeat (first | (with_reducible first | exact HB.out | apply below_alloc | apply pw_below_drewN | apply below_drew1) | exact HB.out)) hb); clear HO_3; clear HB; have HO_3 := n0_; have HB := n1_; clear n0_ n1_; (try clear hb); (try clear hb2); (try clear hk); (try clear hi)) | ((with_reducible refine gate_callee (f := 25) rfl ?_); refine goesL_ (some 39) rfl rfl Tryd.func25 (by kernel_rfl) rfl #[.int .i64 (wrap64 (x4_5 + 1))] rfl (by (try simp only [List.map_toArray, List.map_cons, List.map_nil]); first | done | rfl | (simp only [List.length_drop, List.length_take]; rfl)) ?_; (with_reducible refine (digits_Print.calls (wrap64 (x4_5 + 1)) t105 _ A14.out).mono ?_); rintro e w19 ⟨rfl, hb⟩; refine ⟨_, rfl, ?_⟩; have n0_ := Aside0.mk (Kd.R_below (by (with_reducible repeat (first | apply Kd.R_alloc | apply Kd.R_drewN | apply Kd.R_drew)); exact HO_3.out) hb); have n1_ := Aside0.mk (below_step (by repeat (first | (with_reducible first | exact HB.out | apply below_alloc | apply pw_below_drewN | apply below_drew1) | exact HB.out)) hb); clear HO_3; clear HB; have HO_3 := n0_; have HB := n1_; clear n0_ n1_; (try clear hb); (try clear hb2); (try clear hk); (try clear hi)) | ((with_reducible refine gate_builtin (b := .append) (xs := #[.tmp 42, .tmp 44]) rfl ?_); at_builtin; refine Kd.R_append Kd.string (w0 := w) w.heap.size rfl (.tmp 42) (.tmp 44) 55 9 (.string ⟨#[]⟩) 16 rfl Tryd.underlying55 info9 rfl (by decide) (by omega) u3 x3_1 (t104 ++ ((⟨#[45]⟩ : ByteArray) ++ t105)) [.string (t104 ++ ((⟨#[45]⟩ : ByteArray) ++ t105))] (fun _ => True) (fun _ => False) rfl rfl ?aP (fun _ hk => hk.elim) ?aF ?aO ?aB ?aS ?aL ?_; (case aP => exact rfl); (case aB => exact (by repeat (first | (with_reducible first | exact HB.out | apply below_alloc | apply pw_below_drewN | apply below_drew1) | exact HB.out))); (case aF => exact (fun _ _ => trivial)); (case aO => exact (by (with_reducible repeat (first | apply Kd.R_alloc | apply Kd.R_drewN | apply Kd.R_drew)); exact HO_3.out)); (case aS => exact (below_size (by repeat (first | (with_reducible first | exact HB.out | apply below_alloc | apply pw_below_drewN | apply below_drew1) | exact HB.out)))); (case aL => have := LMc17.out; omega); intro v107 w20 ho hb hg hat; rw [← Ny106.out] at ho; have n0_ := Aside0.mk (hb); have n1_ := Aside0.mk (ho); clear HB; clear HO_3; have HB := n0_; have HO108 := n1_; clear n0_ n1_; clear ho hb hg hat))
                        go_roundg kj5
                        case measure => have := HK1.out; have := HJ5.out; omega
                        case rel => exact ⟨(y106), (wrap64 (x4_5 + 1)), (by first | rfl | (simp; done) | (simp [*]; done)), H', ⟨by have := HK1.out; have := HJ5.out; omega⟩, ⟨by (with_reducible repeat (first | apply Kd.R_alloc | apply Kd.R_drewN | apply Kd.R_drew)); exact HO108.out⟩, ⟨by repeat (first | (with_reducible first | exact HB.out | apply below_alloc | apply pw_below_drewN | apply below_drew1) | exact HB.out)⟩⟩
                      · rw [if_neg c17] at H
                        exact absurd H (by simp)
                    · rw [if_neg c16] at H
                      exact absurd H (by simp)
                  · rw [if_neg c15] at H
                    exact absurd H (by simp)
                · rw [if_neg c13] at H
                  have c13b0 : decide (x4_1 < x4_5) = false := decide_eq_false c13
                  clear c13
                  by_cases c21 : x3_1.length < 8796093022208
                  · rw [if_pos c21] at H
                    have LMc21 := Aside0.mk c21
                    clear c21
                    obtain ⟨y109, hy109⟩ : ∃ y_ : List ByteArray, y_ = (x3_1 ++ [t104]) := ⟨_, rfl⟩
                    replace H : (clock_Weeks.l0 kj5 a0 y109 (wrap64 (x4_5 + 1))) = some r := by first | (rw [hy109]; with_reducible exact H) | (have H2_ := (Option.bind_some _ _).symm.trans H; rw [hy109]; with_reducible exact H2_) | (have H2_ := (Option.bind_some _ _).symm.trans H; with_reducible exact H2_) | with_reducible exact H | (rw [hy109]; exact H) | exact H
                    have Ny109 := Aside0.mk hy109
                    clear hy109
                    have H' := Aside0.mk H
                    clear H
                    go_wp2_with (first | ((with_reducible refine gate_callee (f := 25) rfl ?_); refine goesL_ (some 32) rfl rfl Tryd.func25 (by kernel_rfl) rfl #[.int .i64 (wrap64 (x4_1 + 1))] rfl (by (try simp only [List.map_toArray, List.map_cons, List.map_nil]); first | done | rfl | (simp only [List.length_drop, List.length_take]; rfl)) ?_; (with_reducible refine (digits_Print.calls (wrap64 (x4_1 + 1)) t104 _ A12.out).mono ?_); rintro e w22 ⟨rfl, hb⟩; refine ⟨_, rfl, ?_⟩; have n0_ := Aside0.mk (Kd.R_below (by (with_reducible repeat (first | apply Kd.R_alloc | apply Kd.R_drewN | apply Kd.R_drew)); exact HO_3.out) hb); have n1_ := Aside0.mk (below_step (by repeat (first | (with_reducible first | exact HB.out | apply below_alloc | apply pw_below_drewN | apply below_drew1) | exact HB.out)) hb); clear HO_3; clear HB; have HO_3 := n0_; have HB := n1_; clear n0_ n1_; (try clear hb); (try clear hb2); (try clear hk); (try clear hi)) | ((with_reducible refine gate_builtin (b := .append) (xs := #[.tmp 42, .tmp 44]) rfl ?_); at_builtin; refine Kd.R_append Kd.string (w0 := w) w.heap.size rfl (.tmp 42) (.tmp 44) 55 9 (.string ⟨#[]⟩) 16 rfl Tryd.underlying55 info9 rfl (by decide) (by omega) u3 x3_1 t104 [.string t104] (fun _ => True) (fun _ => False) rfl rfl ?aP (fun _ hk => hk.elim) ?aF ?aO ?aB ?aS ?aL ?_; (case aP => exact rfl); (case aB => exact (by repeat (first | (with_reducible first | exact HB.out | apply below_alloc | apply pw_below_drewN | apply below_drew1) | exact HB.out))); (case aF => exact (fun _ _ => trivial)); (case aO => exact (by (with_reducible repeat (first | apply Kd.R_alloc | apply Kd.R_drewN | apply Kd.R_drew)); exact HO_3.out)); (case aS => exact (below_size (by repeat (first | (with_reducible first | exact HB.out | apply below_alloc | apply pw_below_drewN | apply below_drew1) | exact HB.out)))); (case aL => have := LMc21.out; omega); intro v110 w23 ho hb hg hat; rw [← Ny109.out] at ho; have n0_ := Aside0.mk (hb); have n1_ := Aside0.mk (ho); clear HB; clear HO_3; have HB := n0_; have HO111 := n1_; clear n0_ n1_; clear ho hb hg hat))
                    go_roundg kj5
                    case measure => have := HK1.out; have := HJ5.out; omega
                    case rel => exact ⟨(y109), (wrap64 (x4_5 + 1)), (by first | rfl | (simp; done) | (simp [*]; done)), H', ⟨by have := HK1.out; have := HJ5.out; omega⟩, ⟨by (with_reducible repeat (first | apply Kd.R_alloc | apply Kd.R_drewN | apply Kd.R_drew)); exact HO111.out⟩, ⟨by repeat (first | (with_reducible first | exact HB.out | apply below_alloc | apply pw_below_drewN | apply below_drew1) | exact HB.out)⟩⟩
                  · rw [if_neg c21] at H
                    exact absurd H (by simp)
        · rw [if_neg c3] at H
          exact absurd H (by simp)
      · rw [if_neg c2] at H
        have c2b0 : decide (x4_1 < 20) = false := decide_eq_false c2
        clear c2
        replace H := Option.bind_eq_some_iff.mp H
        obtain ⟨t103, A240, H⟩ := H
        replace H : (some t103) = some r := H
        have A24 := Aside0.mk A240
        clear A240
        obtain rfl := Option.some.inj H
        obtain ⟨Ao25, co25, eo25⟩ := Kd.R_slice HO_3.out
        subst eo25
        go_wp2_with (first | ((with_reducible refine gate_callee (f := 38) rfl ?_); refine goesL_ (some 47) rfl rfl Tryd.func38 (by kernel_rfl) rfl #[.slice Ao25 x3_1.length co25, .string (⟨#[44]⟩ : ByteArray)] rfl (by (try simp only [List.map_toArray, List.map_cons, List.map_nil]); first | done | rfl | (simp only [List.length_drop, List.length_take]; rfl)) ?_; (with_reducible refine (strings_Join.calls _ _ x3_1 (⟨#[44]⟩ : ByteArray) t103 _ ?side1 ?side2 A24.out).mono ?_); (case side1 => repeat (first | exact (Kd.R_reads' HO_3.out).2.2 | (with_reducible refine Kd.C_alloc ?_ _) | (with_reducible refine Kd.C_drewN ?_ _) | (with_reducible refine Kd.C_drew ?_))); (case side2 => exact (Kd.R_reads' HO_3.out).2.1); rintro e w26 ⟨rfl, hb⟩; refine ⟨_, rfl, ?_⟩; have n0_ := Aside0.mk (Kd.R_below (by (with_reducible repeat (first | apply Kd.R_alloc | apply Kd.R_drewN | apply Kd.R_drew)); exact HO_3.out) hb); have n1_ := Aside0.mk (below_step (by repeat (first | (with_reducible first | exact HB.out | apply below_alloc | apply pw_below_drewN | apply below_drew1) | exact HB.out)) hb); clear HO_3; clear HB; have HO_3 := n0_; have HB := n1_; clear n0_ n1_; (try clear hb); (try clear hb2); (try clear hk); (try clear hi)))
        go_ret
        exact ⟨by first | rfl | (simp [errW_none, errW_some] <;> rfl) | (simp [*, errW_none, errW_some] <;> rfl), by repeat (first | (with_reducible first | exact HB.out | apply below_alloc | apply pw_below_drewN | apply below_drew1) | exact HB.out)⟩
end Go.Proofs.YtnagecfpbkffpaaDoor.P
end
section
namespace Go.Proofs.YtnagecfpbkffpaaDoor.P
open Go.RowKit Go.Proofs.YtnagecfpbkffpaaDoorW.PrintWords Go.Proofs.YtnagecfpbkffpaaDoorW.PrintLast Go.Proofs.YtnagecfpbkffpaaDoorW.PrintMore
set_option linter.unusedVariables false
def dayLetters : ByteArray := ⟨#[109, 116, 119, 104, 102, 115, 117]⟩
def dayB (d : Int) (i : Nat) : Bool := decide (d / 2 ^ i % 2 = 1)
def daysL (d : Int) : Nat → List Int
  | 0 => []
  | k + 1 => daysL d k ++ if dayB d k then [bt dayLetters k] else []
def clock_Days.f (a0 : Int) : Option ByteArray := if 0 ≤ a0 ∧ a0 ≤ 255 then some (strOfNums (daysL a0 7)) else none
theorem and1_all : ∀ c : Fin 256, Go.bits .and .u8 (c.1 : Int) 1 = (c.1 : Int) % 2 := by decide +kernel
theorem bit_test (d : Int) (k : Nat) (n x : Int) (h0 : 0 ≤ d) (h1 : d ≤ 255) (hx : x = if k = 0 then d else d / n) (hn : n = 2 ^ k) : (Go.bits .and .u8 x 1 == 1) = dayB d k := by
  have hx2 : x = d / 2 ^ k := by
    rw [hx]
    by_cases hk : k = 0
    · rw [if_pos hk, hk]
      simp
    · rw [if_neg hk, hn]
  have hp : (0 : Int) < 2 ^ k := Int.pow_pos (by decide)
  have hr : 0 ≤ x ∧ x ≤ 255 := by
    rw [hx2]
    exact ⟨Int.ediv_nonneg h0 (Int.le_of_lt hp), Int.le_trans (Int.ediv_le_self _ h0) h1⟩
  have h2 := and1_all ⟨x.toNat, by omega⟩
  have e : ((x.toNat : Nat) : Int) = x := by omega
  simp only [e] at h2
  rw [h2, hx2]
  unfold dayB
  rw [Bool.eq_iff_iff, beq_iff_eq, decide_eq_true_iff]
theorem enc_letters : ∀ k : Fin 7, Utf8.encode (dayLetters[k.1]'(by have := k.2; exact this)).toNat = strOfNums [bt dayLetters (k.1 : Int)] := by decide +kernel
theorem str_append' (a b : List Int) : strOfNums a ++ strOfNums b = strOfNums (a ++ b) := by
  apply ByteArray.ext
  rw [ByteArray.data_append]
  apply Array.ext'
  simp [strOfNums]
theorem enc_one (l : List Int) (k : Fin 7) : strOfNums l ++ Utf8.encode (dayLetters[k.1]'(by have := k.2; exact this)).toNat = strOfNums (l ++ [bt dayLetters (k.1 : Int)]) := by
  rw [enc_letters k, str_append']
theorem enc_size (k : Fin 7) : (Utf8.encode (dayLetters[k.1]'(by have := k.2; exact this)).toNat).size = 1 := by
  rw [enc_letters k, strOfNums_size]
  rfl
theorem daysL_size (d : Int) (k : Nat) : (strOfNums (daysL d k)).size ≤ k := by
  rw [strOfNums_size]
  induction k with
  | zero => exact Nat.le_refl _
  | succ k ih =>
    unfold daysL
    rw [List.length_append]
    split
    · simp; omega
    · simp; omega
theorem iter_less (w : World) (k : Nat) (h : k < 7) : 7 - (w.iter dayLetters (k + 1)).iterPos w.heap.size < 7 - (w.iter dayLetters k).iterPos w.heap.size := by
  simp only [World.iterPos, World.iter_heap]
  omega
theorem iter_below (w : World) (k : Nat) : Below w.heap.size w (w.iter dayLetters k) := (Below.refl _ _).alloc (Nat.le_refl _) _
set_option maxHeartbeats 4000000 in
set_option maxRecDepth 100000 in
theorem clock_Days.calls (a0 : Int) (r : ByteArray) (w : World) (h : clock_Days.f a0 = some r) :
    Calls Tryd.prog 22 #[.int .u8 a0] w fun e w' => e = .returned (.string r) ∧ Below w.heap.size w w' := by
  unfold clock_Days.f at h
  by_cases hd : 0 ≤ a0 ∧ a0 ≤ 255
  · rw [if_pos hd] at h
    obtain rfl : strOfNums (daysL a0 7) = r := by simpa using h
    clear h
    obtain ⟨h0, h1⟩ := hd
    go_enter Tryd.func22, Tryd.ntmps22
    go_wp2
    go_loopw [3] (fun v wr => ∃ k : Nat, k ≤ 7 ∧ v = .string (strOfNums (daysL a0 k)) ∧ wr = w.iter dayLetters k) (fun _ wr => 7 - wr.iterPos w.heap.size)
    case atStart => exact ⟨0, by omega, rfl, rfl⟩
    case round =>
      obtain ⟨k, hk, rfl, rfl⟩ := hrel
      by_cases hlt : k < 7
      · have hnx := run_next_ascii (P := Tryd.prog) w dayLetters k
        have hcase : k = 0 ∨ k = 1 ∨ k = 2 ∨ k = 3 ∨ k = 4 ∨ k = 5 ∨ k = 6 := by omega
        rcases hcase with rfl | rfl | rfl | rfl | rfl | rfl | rfl
        · have hn2 := fun ty => hnx ty (by decide) (by decide)
          have he := bit_test a0 0 1 a0 h0 h1 rfl (by decide)
          have hs : strOfNums (daysL a0 0) ++ Utf8.encode (dayLetters[0]'(by decide)).toNat = strOfNums (daysL a0 0 ++ [bt dayLetters 0]) := enc_one _ ⟨0, by decide⟩
          have hl := daysL_size a0 0
          clear hnx hlt hk
          by_cases hb : dayB a0 0 = true
          · rw [hb] at he
            have hnext : daysL a0 1 = daysL a0 0 ++ [bt dayLetters 0] := by rw [show daysL a0 1 = daysL a0 0 ++ if dayB a0 0 then [bt dayLetters 0] else [] from rfl, if_pos hb]
            rw [← hnext] at hs
            have HS := Aside0.mk hs
            have hz : (strOfNums (daysL a0 0)).size + (Utf8.encode (dayLetters[0]'(by decide)).toNat).size ≤ 9223372036854775807 := by have hz1 := enc_size ⟨0, by decide⟩; simp only [] at hz1; omega
            clear hs hb hl hnext
            go_wp2
            refine ⟨⟨1, by omega, ?_, rfl⟩, iter_less w 0 (by decide)⟩
            rw [HS.out]
          · have hb' : dayB a0 0 = false := by simpa using hb
            rw [hb'] at he
            have hnext : daysL a0 1 = daysL a0 0 := by rw [show daysL a0 1 = daysL a0 0 ++ if dayB a0 0 then [bt dayLetters 0] else [] from rfl, if_neg hb, List.append_nil]
            have HN := Aside0.mk hnext
            clear hs hb hb' hl hnext
            go_wp2
            refine ⟨⟨1, by omega, ?_, rfl⟩, iter_less w 0 (by decide)⟩
            rw [HN.out]
        · have hn2 := fun ty => hnx ty (by decide) (by decide)
          have he := bit_test a0 1 2 (a0 / 2) h0 h1 rfl (by decide)
          have hs : strOfNums (daysL a0 1) ++ Utf8.encode (dayLetters[1]'(by decide)).toNat = strOfNums (daysL a0 1 ++ [bt dayLetters 1]) := enc_one _ ⟨1, by decide⟩
          have hl := daysL_size a0 1
          clear hnx hlt hk
          by_cases hb : dayB a0 1 = true
          · rw [hb] at he
            have hnext : daysL a0 2 = daysL a0 1 ++ [bt dayLetters 1] := by rw [show daysL a0 2 = daysL a0 1 ++ if dayB a0 1 then [bt dayLetters 1] else [] from rfl, if_pos hb]
            rw [← hnext] at hs
            have HS := Aside0.mk hs
            have hz : (strOfNums (daysL a0 1)).size + (Utf8.encode (dayLetters[1]'(by decide)).toNat).size ≤ 9223372036854775807 := by have hz1 := enc_size ⟨1, by decide⟩; simp only [] at hz1; omega
            clear hs hb hl hnext
            go_wp2
            refine ⟨⟨2, by omega, ?_, rfl⟩, iter_less w 1 (by decide)⟩
            rw [HS.out]
          · have hb' : dayB a0 1 = false := by simpa using hb
            rw [hb'] at he
            have hnext : daysL a0 2 = daysL a0 1 := by rw [show daysL a0 2 = daysL a0 1 ++ if dayB a0 1 then [bt dayLetters 1] else [] from rfl, if_neg hb, List.append_nil]
            have HN := Aside0.mk hnext
            clear hs hb hb' hl hnext
            go_wp2
            refine ⟨⟨2, by omega, ?_, rfl⟩, iter_less w 1 (by decide)⟩
            rw [HN.out]
        · have hn2 := fun ty => hnx ty (by decide) (by decide)
          have he := bit_test a0 2 4 (a0 / 4) h0 h1 rfl (by decide)
          have hs : strOfNums (daysL a0 2) ++ Utf8.encode (dayLetters[2]'(by decide)).toNat = strOfNums (daysL a0 2 ++ [bt dayLetters 2]) := enc_one _ ⟨2, by decide⟩
          have hl := daysL_size a0 2
          clear hnx hlt hk
          by_cases hb : dayB a0 2 = true
          · rw [hb] at he
            have hnext : daysL a0 3 = daysL a0 2 ++ [bt dayLetters 2] := by rw [show daysL a0 3 = daysL a0 2 ++ if dayB a0 2 then [bt dayLetters 2] else [] from rfl, if_pos hb]
            rw [← hnext] at hs
            have HS := Aside0.mk hs
            have hz : (strOfNums (daysL a0 2)).size + (Utf8.encode (dayLetters[2]'(by decide)).toNat).size ≤ 9223372036854775807 := by have hz1 := enc_size ⟨2, by decide⟩; simp only [] at hz1; omega
            clear hs hb hl hnext
            go_wp2
            refine ⟨⟨3, by omega, ?_, rfl⟩, iter_less w 2 (by decide)⟩
            rw [HS.out]
          · have hb' : dayB a0 2 = false := by simpa using hb
            rw [hb'] at he
            have hnext : daysL a0 3 = daysL a0 2 := by rw [show daysL a0 3 = daysL a0 2 ++ if dayB a0 2 then [bt dayLetters 2] else [] from rfl, if_neg hb, List.append_nil]
            have HN := Aside0.mk hnext
            clear hs hb hb' hl hnext
            go_wp2
            refine ⟨⟨3, by omega, ?_, rfl⟩, iter_less w 2 (by decide)⟩
            rw [HN.out]
        · have hn2 := fun ty => hnx ty (by decide) (by decide)
          have he := bit_test a0 3 8 (a0 / 8) h0 h1 rfl (by decide)
          have hs : strOfNums (daysL a0 3) ++ Utf8.encode (dayLetters[3]'(by decide)).toNat = strOfNums (daysL a0 3 ++ [bt dayLetters 3]) := enc_one _ ⟨3, by decide⟩
          have hl := daysL_size a0 3
          clear hnx hlt hk
          by_cases hb : dayB a0 3 = true
          · rw [hb] at he
            have hnext : daysL a0 4 = daysL a0 3 ++ [bt dayLetters 3] := by rw [show daysL a0 4 = daysL a0 3 ++ if dayB a0 3 then [bt dayLetters 3] else [] from rfl, if_pos hb]
            rw [← hnext] at hs
            have HS := Aside0.mk hs
            have hz : (strOfNums (daysL a0 3)).size + (Utf8.encode (dayLetters[3]'(by decide)).toNat).size ≤ 9223372036854775807 := by have hz1 := enc_size ⟨3, by decide⟩; simp only [] at hz1; omega
            clear hs hb hl hnext
            go_wp2
            refine ⟨⟨4, by omega, ?_, rfl⟩, iter_less w 3 (by decide)⟩
            rw [HS.out]
          · have hb' : dayB a0 3 = false := by simpa using hb
            rw [hb'] at he
            have hnext : daysL a0 4 = daysL a0 3 := by rw [show daysL a0 4 = daysL a0 3 ++ if dayB a0 3 then [bt dayLetters 3] else [] from rfl, if_neg hb, List.append_nil]
            have HN := Aside0.mk hnext
            clear hs hb hb' hl hnext
            go_wp2
            refine ⟨⟨4, by omega, ?_, rfl⟩, iter_less w 3 (by decide)⟩
            rw [HN.out]
        · have hn2 := fun ty => hnx ty (by decide) (by decide)
          have he := bit_test a0 4 16 (a0 / 16) h0 h1 rfl (by decide)
          have hs : strOfNums (daysL a0 4) ++ Utf8.encode (dayLetters[4]'(by decide)).toNat = strOfNums (daysL a0 4 ++ [bt dayLetters 4]) := enc_one _ ⟨4, by decide⟩
          have hl := daysL_size a0 4
          clear hnx hlt hk
          by_cases hb : dayB a0 4 = true
          · rw [hb] at he
            have hnext : daysL a0 5 = daysL a0 4 ++ [bt dayLetters 4] := by rw [show daysL a0 5 = daysL a0 4 ++ if dayB a0 4 then [bt dayLetters 4] else [] from rfl, if_pos hb]
            rw [← hnext] at hs
            have HS := Aside0.mk hs
            have hz : (strOfNums (daysL a0 4)).size + (Utf8.encode (dayLetters[4]'(by decide)).toNat).size ≤ 9223372036854775807 := by have hz1 := enc_size ⟨4, by decide⟩; simp only [] at hz1; omega
            clear hs hb hl hnext
            go_wp2
            refine ⟨⟨5, by omega, ?_, rfl⟩, iter_less w 4 (by decide)⟩
            rw [HS.out]
          · have hb' : dayB a0 4 = false := by simpa using hb
            rw [hb'] at he
            have hnext : daysL a0 5 = daysL a0 4 := by rw [show daysL a0 5 = daysL a0 4 ++ if dayB a0 4 then [bt dayLetters 4] else [] from rfl, if_neg hb, List.append_nil]
            have HN := Aside0.mk hnext
            clear hs hb hb' hl hnext
            go_wp2
            refine ⟨⟨5, by omega, ?_, rfl⟩, iter_less w 4 (by decide)⟩
            rw [HN.out]
        · have hn2 := fun ty => hnx ty (by decide) (by decide)
          have he := bit_test a0 5 32 (a0 / 32) h0 h1 rfl (by decide)
          have hs : strOfNums (daysL a0 5) ++ Utf8.encode (dayLetters[5]'(by decide)).toNat = strOfNums (daysL a0 5 ++ [bt dayLetters 5]) := enc_one _ ⟨5, by decide⟩
          have hl := daysL_size a0 5
          clear hnx hlt hk
          by_cases hb : dayB a0 5 = true
          · rw [hb] at he
            have hnext : daysL a0 6 = daysL a0 5 ++ [bt dayLetters 5] := by rw [show daysL a0 6 = daysL a0 5 ++ if dayB a0 5 then [bt dayLetters 5] else [] from rfl, if_pos hb]
            rw [← hnext] at hs
            have HS := Aside0.mk hs
            have hz : (strOfNums (daysL a0 5)).size + (Utf8.encode (dayLetters[5]'(by decide)).toNat).size ≤ 9223372036854775807 := by have hz1 := enc_size ⟨5, by decide⟩; simp only [] at hz1; omega
            clear hs hb hl hnext
            go_wp2
            refine ⟨⟨6, by omega, ?_, rfl⟩, iter_less w 5 (by decide)⟩
            rw [HS.out]
          · have hb' : dayB a0 5 = false := by simpa using hb
            rw [hb'] at he
            have hnext : daysL a0 6 = daysL a0 5 := by rw [show daysL a0 6 = daysL a0 5 ++ if dayB a0 5 then [bt dayLetters 5] else [] from rfl, if_neg hb, List.append_nil]
            have HN := Aside0.mk hnext
            clear hs hb hb' hl hnext
            go_wp2
            refine ⟨⟨6, by omega, ?_, rfl⟩, iter_less w 5 (by decide)⟩
            rw [HN.out]
        · have hn2 := fun ty => hnx ty (by decide) (by decide)
          have he := bit_test a0 6 64 (a0 / 64) h0 h1 rfl (by decide)
          have hs : strOfNums (daysL a0 6) ++ Utf8.encode (dayLetters[6]'(by decide)).toNat = strOfNums (daysL a0 6 ++ [bt dayLetters 6]) := enc_one _ ⟨6, by decide⟩
          have hl := daysL_size a0 6
          clear hnx hlt hk
          by_cases hb : dayB a0 6 = true
          · rw [hb] at he
            have hnext : daysL a0 7 = daysL a0 6 ++ [bt dayLetters 6] := by rw [show daysL a0 7 = daysL a0 6 ++ if dayB a0 6 then [bt dayLetters 6] else [] from rfl, if_pos hb]
            rw [← hnext] at hs
            have HS := Aside0.mk hs
            have hz : (strOfNums (daysL a0 6)).size + (Utf8.encode (dayLetters[6]'(by decide)).toNat).size ≤ 9223372036854775807 := by have hz1 := enc_size ⟨6, by decide⟩; simp only [] at hz1; omega
            clear hs hb hl hnext
            go_wp2
            refine ⟨⟨7, by omega, ?_, rfl⟩, iter_less w 6 (by decide)⟩
            rw [HS.out]
          · have hb' : dayB a0 6 = false := by simpa using hb
            rw [hb'] at he
            have hnext : daysL a0 7 = daysL a0 6 := by rw [show daysL a0 7 = daysL a0 6 ++ if dayB a0 6 then [bt dayLetters 6] else [] from rfl, if_neg hb, List.append_nil]
            have HN := Aside0.mk hnext
            clear hs hb hb' hl hnext
            go_wp2
            refine ⟨⟨7, by omega, ?_, rfl⟩, iter_less w 6 (by decide)⟩
            rw [HN.out]
      · have hke : k = 7 := by omega
        subst hke
        have hnx := fun ty => run_next_end (P := Tryd.prog) w dayLetters 7 ty (by decide)
        clear hlt hk
        go_wp2
        go_ret
        exact ⟨rfl, iter_below w _⟩
  · rw [if_neg hd] at h
    exact absurd h (by simp)
end Go.Proofs.YtnagecfpbkffpaaDoor.P
end
