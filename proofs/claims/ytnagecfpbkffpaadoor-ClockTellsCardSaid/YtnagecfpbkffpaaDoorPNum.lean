import Derived.Test.YtnagecfpbkffpaaDoorPDays
import Derived.Test.YtnagecfpbkffpaaDoorPx4
import Derived.Test.YtnagecfpbkffpaaDoorPx8
import Derived.Test.YtnagecfpbkffpaaDoorPx9
import Derived.Test.YtnagecfpbkffpaaDoorPx10
import Derived.Test.YtnagecfpbkffpaaDoorPx12
import Derived.Test.YtnagecfpbkffpaaDoorPx14
import Derived.Test.YtnagecfpbkffpaaDoorPx15
import Derived.Test.YtnagecfpbkffpaaDoorPx16
import Derived.Lib.Join
import Derived.Lib.Bytealg
section
namespace Go.Proofs.YtnagecfpbkffpaaDoor.P
open Go.RowKit Go.Proofs.YtnagecfpbkffpaaDoorW.PrintWords Go.Proofs.YtnagecfpbkffpaaDoorW.PrintLast Go.Proofs.YtnagecfpbkffpaaDoorW.PrintMore
attribute [local go_sem] max2_int min2_int max_two min_two max_three min_three max_four min_four   -- for this text's walks alone
set_option linter.unusedVariables false
set_option linter.unusedSimpArgs false
attribute [local go_sem high] eqA26
def horariumlaw10_ClockTells.f (k : Nat) (a0_0 : Int) (a0_1 : Int) (a0_2 : Int) (a1_0 : Int) (a1_1 : Int) (a1_2 : Int) (a1_3 : Int) (a2 : ByteArray) (a3 : Int) : Option (Bool) := if (a2.size : Int) > 200 then ((horariumlaw10_heads.f k).bind fun t336 => (some t336)) else ((clock_Parse.f k a0_0 a0_1 a0_2 a2).bind fun bt337 => ((horariumref10_Parse.f k a0_0 a0_1 a0_2 a2).bind fun bt343 => ((clock_Print.f k a0_0 a0_1 a0_2 a1_0 a1_1 a1_2 a1_3).bind fun t349 => ((horariumref10_Print.f k a0_0 a0_1 a0_2 a1_0 a1_1 a1_2 a1_3).bind fun t350 => (if t349.toList = t350.toList then (if (bt337.1 == bt343.1 && (bt337.2.1 == bt343.2.1 && (bt337.2.2.1 == bt343.2.2.1 && (bt337.2.2.2.1 == bt343.2.2.2.1)))) = true then (if bt337.2.2.2.2 = bt343.2.2.2.2 then ((clock_Moment.f a0_0 a0_1 a0_2 a3).bind fun t351 => ((horariumref10_Moment.f k a0_0 a0_1 a0_2 a3).bind fun t352 => (if t351.toList = t352.toList then ((horariumlaw10_heads.f k).bind fun t353 => (some t353)) else (none)))) else (none)) else (none)) else (none))))))
def horariumlaw10_ClockTells.T5 : Bool × List (List Nat × List Nat) := (true, [([], []), ([], []), ([0, 1], [0, 1]), ([], []), ([], []), ([3, 4, 2], [3, 4]), ([2, 5], [2, 5]), ([6, 5], [6]), ([7], [7]), ([7], [7]), ([8, 9, 7], [7, 8, 9]), ([7, 10], [7, 10]), ([11, 7], [11]), ([12], [12]), ([12], [12]), ([13, 14, 12], [12, 13, 14]), ([12, 15], [12, 15]), ([16, 12], [16]), ([17], [17]), ([17], [17]), ([18, 19, 17, 17], [17, 18, 19]), ([17], [17]), ([17], [17]), ([21, 22, 20, 17], [17, 21, 22]), ([20, 23, 17], [17, 20, 23]), ([17, 24], [17, 24]), ([25, 23], [25]), ([26, 26], [26]), ([26, 27], [26, 27]), ([28, 27, 0, 1, 2, 3, 4, 5, 6, 7, 8, 9, 10, 11, 12, 13, 14, 15, 16, 17, 18, 19, 20, 21, 22, 23, 24, 25, 26, 27, 28], [28])])
def horariumlaw10_ClockTells.B5 : List Nat := [0, 0, 3, 0, 0, 31, 63, 127, 255, 255, 1023, 2047, 4095, 8191, 8191, 32767, 65535, 131071, 262143, 262143, 1048575, 262143, 262143, 8388607, 16777215, 33554431, 67108863, 134217727, 268435455, 536870911]
theorem horariumlaw10_ClockTells.tab5 : rtab .any (opsOf Tryd.f4 5) = horariumlaw10_ClockTells.T5 := by kernel_rfl
theorem horariumlaw10_ClockTells.bits5 : waitsOk horariumlaw10_ClockTells.T5.2 horariumlaw10_ClockTells.B5 = true := by kernel_rfl
set_option maxHeartbeats 8000000 in
set_option maxRecDepth 100000 in
theorem horariumlaw10_ClockTells.calls (k : Nat) (a0_0 : Int) (a0_1 : Int) (a0_2 : Int) (a1_0 : Int) (a1_1 : Int) (a1_2 : Int) (a1_3 : Int) (a2 : ByteArray) (a3 : Int) (r : Bool) (w : World) (h : horariumlaw10_ClockTells.f k a0_0 a0_1 a0_2 a1_0 a1_1 a1_2 a1_3 a2 a3 = some r) :
    Calls Tryd.prog 4 #[.agg #[.int .i64 a0_0, .int .i64 a0_1, .int .i64 a0_2], .agg #[.int .u32 a1_0, .int .u8 a1_1, .int .i64 a1_2, .int .i64 a1_3], .string a2, .int .i64 a3] w fun e w' => e = .returned (.bool r) ∧ Below w.heap.size w w' := by
  have hu23 := Tryd.underlying23
  have hu26 := Tryd.underlying26
  have HB := Aside0.mk (Below.refl w.heap.size w)
  have H : (if (a2.size : Int) > 200 then ((horariumlaw10_heads.f k).bind fun t336 => (some t336)) else ((clock_Parse.f k a0_0 a0_1 a0_2 a2).bind fun bt337 => ((horariumref10_Parse.f k a0_0 a0_1 a0_2 a2).bind fun bt343 => ((clock_Print.f k a0_0 a0_1 a0_2 a1_0 a1_1 a1_2 a1_3).bind fun t349 => ((horariumref10_Print.f k a0_0 a0_1 a0_2 a1_0 a1_1 a1_2 a1_3).bind fun t350 => (if t349.toList = t350.toList then (if (bt337.1 == bt343.1 && (bt337.2.1 == bt343.2.1 && (bt337.2.2.1 == bt343.2.2.1 && (bt337.2.2.2.1 == bt343.2.2.2.1)))) = true then (if bt337.2.2.2.2 = bt343.2.2.2.2 then ((clock_Moment.f a0_0 a0_1 a0_2 a3).bind fun t351 => ((horariumref10_Moment.f k a0_0 a0_1 a0_2 a3).bind fun t352 => (if t351.toList = t352.toList then ((horariumlaw10_heads.f k).bind fun t353 => (some t353)) else (none)))) else (none)) else (none)) else (none))))))) = some r := h
  clear h
  by_cases c5 : (a2.size : Int) > 200
  · rw [if_pos c5] at H
    have c5b0 : decide (200 < (a2.size : Int)) = true := decide_eq_true c5
    have c5b1 : decide (200 < a2.size) = true := decide_eq_true (by omega)
    clear c5
    replace H := Option.bind_eq_some_iff.mp H
    obtain ⟨t336, A60, H⟩ := H
    replace H : (some t336) = some r := H
    have A6 := Aside0.mk A60
    clear A60
    obtain rfl := Option.some.inj H
    go_enter Tryd.func4, Tryd.ntmps4
    go_wp2_with (first | ((with_reducible refine gate_dst (N := 4) rfl ?_); refine box_event ?hg (N := 4) ?hd (cs := #[.int .i64 a0_0, .int .i64 a0_1, .int .i64 a0_2]) (t := 23) ?hr ?_; (case hd => rfl); (case hg => rfl); (case hr => first | (go_simp; done) | (go_simp; rfl)); intro gb334 hg w7 hbox hb; have n0_ := Aside0.mk (below_step (by repeat (first | (with_reducible first | exact HB.out | apply below_alloc | apply pw_below_drewN | apply below_drew1) | exact HB.out)) hb); have n1_ := Aside0.mk (hbox); have n2_ := Aside0.mk ((by rw [hg]; exact (below_size (by repeat (first | (with_reducible first | exact HB.out | apply below_alloc | apply pw_below_drewN | apply below_drew1) | exact HB.out))) : w.heap.size ≤ gb334)); have n3_ := Aside0.mk ((by rw [hg]; exact (below_size (by repeat (first | (with_reducible first | exact HB.out | apply below_alloc | apply pw_below_drewN | apply below_drew1) | exact HB.out))) : w.heap.size ≤ gb334)); clear HB; have HB := n0_; have BK334 := n1_; have GW334 := n2_; have GE334 := n3_; clear n0_ n1_ n2_ n3_; clear hb hbox hg) | ((with_reducible refine gate_dst (N := 5) rfl ?_); refine box_event ?hg (N := 5) ?hd (cs := #[.int .u32 a1_0, .int .u8 a1_1, .int .i64 a1_2, .int .i64 a1_3]) (t := 26) ?hr ?_; (case hd => rfl); (case hg => rfl); (case hr => first | (go_simp; done) | (go_simp; rfl)); intro gb335 hg w8 hbox hb; have n0_ := Aside0.mk (blk_below (g := gb334) (o := .cells #[.int .i64 a0_0, .int .i64 a0_1, .int .i64 a0_2] 23 (0, 0)) (by (with_reducible repeat (first | refine blk_drewN ?_ _ | refine blk_drew ?_ | refine blk_alloc ?_ _)); exact BK334.out) hb); have n1_ := Aside0.mk (below_step (by repeat (first | (with_reducible first | exact HB.out | apply below_alloc | apply pw_below_drewN | apply below_drew1 | refine below_set ?_ GE334.out) | exact HB.out)) hb); have n2_ := Aside0.mk (hbox); have n3_ := Aside0.mk ((by rw [hg]; exact (below_size (by repeat (first | (with_reducible first | exact HB.out | apply below_alloc | apply pw_below_drewN | apply below_drew1 | refine below_set ?_ GE334.out) | exact HB.out))) : w.heap.size ≤ gb335)); have n4_ := Aside0.mk ((by rw [hg]; exact (below_size (by repeat (first | (with_reducible first | exact HB.out | apply below_alloc | apply pw_below_drewN | apply below_drew1 | refine below_set ?_ GE334.out) | exact HB.out))) : w.heap.size ≤ gb335)); have n5_ := Aside0.mk ((by rw [hg]; exact Nat.ne_of_lt (blk_lt (g := gb334) (o := .cells #[.int .i64 a0_0, .int .i64 a0_1, .int .i64 a0_2] 23 (0, 0)) (by (with_reducible repeat (first | refine blk_drewN ?_ _ | refine blk_drew ?_ | refine blk_alloc ?_ _)); exact BK334.out)) : gb334 ≠ gb335)); have n6_ := Aside0.mk ((by rw [hg]; exact Nat.ne_of_gt (blk_lt (g := gb334) (o := .cells #[.int .i64 a0_0, .int .i64 a0_1, .int .i64 a0_2] 23 (0, 0)) (by (with_reducible repeat (first | refine blk_drewN ?_ _ | refine blk_drew ?_ | refine blk_alloc ?_ _)); exact BK334.out)) : gb335 ≠ gb334)); clear BK334; clear HB; have BK334 := n0_; have HB := n1_; have BK335 := n2_; have GW335 := n3_; have GE335 := n4_; have NB334_335 := n5_; have NB335_334 := n6_; clear n0_ n1_ n2_ n3_ n4_ n5_ n6_; clear hb hbox hg) | ((with_reducible refine gate_callee (f := 9) rfl ?_); refine goesL_ (some 16) rfl rfl Tryd.func9 (by kernel_rfl) rfl #[] rfl (by (try simp only [List.map_toArray, List.map_cons, List.map_nil]); first | done | rfl | (simp only [List.length_drop, List.length_take]; rfl)) ?_; (with_reducible refine (horariumlaw10_heads.calls k  t336 _ A6.out).mono ?_); rintro e w9 ⟨rfl, hb⟩; refine ⟨_, rfl, ?_⟩; have n0_ := Aside0.mk (blk_below (g := gb334) (o := .cells #[.int .i64 a0_0, .int .i64 a0_1, .int .i64 a0_2] 23 (0, 0)) (by (with_reducible repeat (first | refine blk_drewN ?_ _ | refine blk_drew ?_ | refine blk_alloc ?_ _)); exact BK334.out) hb); have n1_ := Aside0.mk (blk_below (g := gb335) (o := .cells #[.int .u32 a1_0, .int .u8 a1_1, .int .i64 a1_2, .int .i64 a1_3] 26 (0, 0)) (by (with_reducible repeat (first | refine blk_drewN ?_ _ | refine blk_drew ?_ | refine blk_alloc ?_ _)); exact BK335.out) hb); have n2_ := Aside0.mk (below_step (by repeat (first | (with_reducible first | exact HB.out | apply below_alloc | apply pw_below_drewN | apply below_drew1 | refine below_set ?_ GE334.out | refine below_set ?_ GE335.out) | exact HB.out)) hb); clear BK334; clear BK335; clear HB; have BK334 := n0_; have BK335 := n1_; have HB := n2_; clear n0_ n1_ n2_; (try clear hb); (try clear hb2); (try clear hk); (try clear hi)))
    go_ret
    exact ⟨by first | rfl | (simp [errW_none, errW_some] <;> rfl) | (simp [*, errW_none, errW_some] <;> rfl), by repeat (first | (with_reducible first | exact HB.out | apply below_alloc | apply pw_below_drewN | apply below_drew1 | refine below_set ?_ GE334.out | refine below_set ?_ GE335.out) | exact HB.out)⟩
  · rw [if_neg c5] at H
    have c5b0 : decide (200 < (a2.size : Int)) = false := decide_eq_false c5
    have c5b1 : decide (200 < a2.size) = false := decide_eq_false (by omega)
    clear c5
    replace H := Option.bind_eq_some_iff.mp H
    obtain ⟨⟨t337, t338, t339, t340, t341⟩, A100, H⟩ := H
    replace H : ((horariumref10_Parse.f k a0_0 a0_1 a0_2 a2).bind fun bt343 => ((clock_Print.f k a0_0 a0_1 a0_2 a1_0 a1_1 a1_2 a1_3).bind fun t349 => ((horariumref10_Print.f k a0_0 a0_1 a0_2 a1_0 a1_1 a1_2 a1_3).bind fun t350 => (if t349.toList = t350.toList then (if (t337 == bt343.1 && (t338 == bt343.2.1 && (t339 == bt343.2.2.1 && (t340 == bt343.2.2.2.1)))) = true then (if t341 = bt343.2.2.2.2 then ((clock_Moment.f a0_0 a0_1 a0_2 a3).bind fun t351 => ((horariumref10_Moment.f k a0_0 a0_1 a0_2 a3).bind fun t352 => (if t351.toList = t352.toList then ((horariumlaw10_heads.f k).bind fun t353 => (some t353)) else (none)))) else (none)) else (none)) else (none))))) = some r := H
    have A10 := Aside0.mk A100
    clear A100
    replace H := Option.bind_eq_some_iff.mp H
    obtain ⟨⟨t343, t344, t345, t346, t347⟩, A110, H⟩ := H
    replace H : ((clock_Print.f k a0_0 a0_1 a0_2 a1_0 a1_1 a1_2 a1_3).bind fun t349 => ((horariumref10_Print.f k a0_0 a0_1 a0_2 a1_0 a1_1 a1_2 a1_3).bind fun t350 => (if t349.toList = t350.toList then (if (t337 == t343 && (t338 == t344 && (t339 == t345 && (t340 == t346)))) = true then (if t341 = t347 then ((clock_Moment.f a0_0 a0_1 a0_2 a3).bind fun t351 => ((horariumref10_Moment.f k a0_0 a0_1 a0_2 a3).bind fun t352 => (if t351.toList = t352.toList then ((horariumlaw10_heads.f k).bind fun t353 => (some t353)) else (none)))) else (none)) else (none)) else (none)))) = some r := H
    have A11 := Aside0.mk A110
    clear A110
    replace H := Option.bind_eq_some_iff.mp H
    obtain ⟨t349, A120, H⟩ := H
    replace H : ((horariumref10_Print.f k a0_0 a0_1 a0_2 a1_0 a1_1 a1_2 a1_3).bind fun t350 => (if t349.toList = t350.toList then (if (t337 == t343 && (t338 == t344 && (t339 == t345 && (t340 == t346)))) = true then (if t341 = t347 then ((clock_Moment.f a0_0 a0_1 a0_2 a3).bind fun t351 => ((horariumref10_Moment.f k a0_0 a0_1 a0_2 a3).bind fun t352 => (if t351.toList = t352.toList then ((horariumlaw10_heads.f k).bind fun t353 => (some t353)) else (none)))) else (none)) else (none)) else (none))) = some r := H
    have A12 := Aside0.mk A120
    clear A120
    replace H := Option.bind_eq_some_iff.mp H
    obtain ⟨t350, A130, H⟩ := H
    replace H : (if t349.toList = t350.toList then (if (t337 == t343 && (t338 == t344 && (t339 == t345 && (t340 == t346)))) = true then (if t341 = t347 then ((clock_Moment.f a0_0 a0_1 a0_2 a3).bind fun t351 => ((horariumref10_Moment.f k a0_0 a0_1 a0_2 a3).bind fun t352 => (if t351.toList = t352.toList then ((horariumlaw10_heads.f k).bind fun t353 => (some t353)) else (none)))) else (none)) else (none)) else (none)) = some r := H
    have A13 := Aside0.mk A130
    clear A130
    by_cases c14 : t349.toList = t350.toList
    · rw [if_pos c14] at H
      have c14b0 : (t349.toList == t350.toList) = true := beq_iff_eq.mpr c14
      have c14b1 : (t349.toList != t350.toList) = false := bne_eq_false_iff_eq.mpr c14
      clear c14
      by_cases c15 : (t337 == t343 && (t338 == t344 && (t339 == t345 && (t340 == t346)))) = true
      · rw [if_pos c15] at H
        have c15b0 : (t337 == t343 && (t338 == t344 && (t339 == t345 && (t340 == t346)))) = true := c15
        (try (have c15b1 : decide (t337 = t343 && (t338 == t344 && (t339 == t345 && (t340 == t346)))) = true := by simpa using c15))
        (try (have c15b2 : (t337 == t343 && (t338 == t344 && (t339 == t345 && (t340 == t346)))) = true := by simpa using c15))
        clear c15
        by_cases c16 : t341 = t347
        · rw [if_pos c16] at H
          have c16b0 : (t341 == t347) = true := beq_iff_eq.mpr c16
          have c16b1 : (t341 != t347) = false := bne_eq_false_iff_eq.mpr c16
          clear c16
          replace H := Option.bind_eq_some_iff.mp H
          obtain ⟨t351, A170, H⟩ := H
          replace H : ((horariumref10_Moment.f k a0_0 a0_1 a0_2 a3).bind fun t352 => (if t351.toList = t352.toList then ((horariumlaw10_heads.f k).bind fun t353 => (some t353)) else (none))) = some r := H
          have A17 := Aside0.mk A170
          clear A170
          replace H := Option.bind_eq_some_iff.mp H
          obtain ⟨t352, A180, H⟩ := H
          replace H : (if t351.toList = t352.toList then ((horariumlaw10_heads.f k).bind fun t353 => (some t353)) else (none)) = some r := H
          have A18 := Aside0.mk A180
          clear A180
          by_cases c19 : t351.toList = t352.toList
          · rw [if_pos c19] at H
            have c19b0 : (t351.toList == t352.toList) = true := beq_iff_eq.mpr c19
            have c19b1 : (t351.toList != t352.toList) = false := bne_eq_false_iff_eq.mpr c19
            clear c19
            replace H := Option.bind_eq_some_iff.mp H
            obtain ⟨t353, A200, H⟩ := H
            replace H : (some t353) = some r := H
            have A20 := Aside0.mk A200
            clear A200
            obtain rfl := Option.some.inj H
            go_enter Tryd.func4, Tryd.ntmps4
            try go_wp2_with (first | ((with_reducible refine gate_dst (N := 4) rfl ?_); refine box_event ?hg (N := 4) ?hd (cs := #[.int .i64 a0_0, .int .i64 a0_1, .int .i64 a0_2]) (t := 23) ?hr ?_; (case hd => rfl); (case hg => rfl); (case hr => first | (go_simp; done) | (go_simp; rfl)); intro gb334 hg w21 hbox hb; have n0_ := Aside0.mk (below_step (by repeat (first | (with_reducible first | exact HB.out | apply below_alloc | apply pw_below_drewN | apply below_drew1) | exact HB.out)) hb); have n1_ := Aside0.mk (hbox); have n2_ := Aside0.mk ((by rw [hg]; exact (below_size (by repeat (first | (with_reducible first | exact HB.out | apply below_alloc | apply pw_below_drewN | apply below_drew1) | exact HB.out))) : w.heap.size ≤ gb334)); have n3_ := Aside0.mk ((by rw [hg]; exact (below_size (by repeat (first | (with_reducible first | exact HB.out | apply below_alloc | apply pw_below_drewN | apply below_drew1) | exact HB.out))) : w.heap.size ≤ gb334)); clear HB; have HB := n0_; have BK334 := n1_; have GW334 := n2_; have GE334 := n3_; clear n0_ n1_ n2_ n3_; clear hb hbox hg) | ((with_reducible refine gate_dst (N := 5) rfl ?_); refine box_event ?hg (N := 5) ?hd (cs := #[.int .u32 a1_0, .int .u8 a1_1, .int .i64 a1_2, .int .i64 a1_3]) (t := 26) ?hr ?_; (case hd => rfl); (case hg => rfl); (case hr => first | (go_simp; done) | (go_simp; rfl)); intro gb335 hg w22 hbox hb; have n0_ := Aside0.mk (blk_below (g := gb334) (o := .cells #[.int .i64 a0_0, .int .i64 a0_1, .int .i64 a0_2] 23 (0, 0)) (by (with_reducible repeat (first | refine blk_drewN ?_ _ | refine blk_drew ?_ | refine blk_alloc ?_ _)); exact BK334.out) hb); have n1_ := Aside0.mk (below_step (by repeat (first | (with_reducible first | exact HB.out | apply below_alloc | apply pw_below_drewN | apply below_drew1 | refine below_set ?_ GE334.out) | exact HB.out)) hb); have n2_ := Aside0.mk (hbox); have n3_ := Aside0.mk ((by rw [hg]; exact (below_size (by repeat (first | (with_reducible first | exact HB.out | apply below_alloc | apply pw_below_drewN | apply below_drew1 | refine below_set ?_ GE334.out) | exact HB.out))) : w.heap.size ≤ gb335)); have n4_ := Aside0.mk ((by rw [hg]; exact (below_size (by repeat (first | (with_reducible first | exact HB.out | apply below_alloc | apply pw_below_drewN | apply below_drew1 | refine below_set ?_ GE334.out) | exact HB.out))) : w.heap.size ≤ gb335)); have n5_ := Aside0.mk ((by rw [hg]; exact Nat.ne_of_lt (blk_lt (g := gb334) (o := .cells #[.int .i64 a0_0, .int .i64 a0_1, .int .i64 a0_2] 23 (0, 0)) (by (with_reducible repeat (first | refine blk_drewN ?_ _ | refine blk_drew ?_ | refine blk_alloc ?_ _)); exact BK334.out)) : gb334 ≠ gb335)); have n6_ := Aside0.mk ((by rw [hg]; exact Nat.ne_of_gt (blk_lt (g := gb334) (o := .cells #[.int .i64 a0_0, .int .i64 a0_1, .int .i64 a0_2] 23 (0, 0)) (by (with_reducible repeat (first | refine blk_drewN ?_ _ | refine blk_drew ?_ | refine blk_alloc ?_ _)); exact BK334.out)) : gb335 ≠ gb334)); clear BK334; clear HB; have BK334 := n0_; have HB := n1_; have BK335 := n2_; have GW335 := n3_; have GE335 := n4_; have NB334_335 := n5_; have NB335_334 := n6_; clear n0_ n1_ n2_ n3_ n4_ n5_ n6_; clear hb hbox hg; have hnb23 := NB334_335.out; have hnc23 := NB335_334.out; have hcz24_0 : w22.cell? ⟨gb334, 0, none⟩ = some (.int .i64 a0_0) := (blk_cell BK334.out 0).trans rfl; have hcz24_1 : w22.cell? ⟨gb334, 1, none⟩ = some (.int .i64 a0_1) := (blk_cell BK334.out 1).trans rfl; have hcz24_2 : w22.cell? ⟨gb334, 2, none⟩ = some (.int .i64 a0_2) := (blk_cell BK334.out 2).trans rfl; have hfz24_0 := blk_frozen BK334.out 0; have hfz24_1 := blk_frozen BK334.out 1; have hfz24_2 := blk_frozen BK334.out 2) | ((with_reducible refine gate_callee (f := 11) rfl ?_); refine goesL_ (some 20) rfl rfl Tryd.func11 (by kernel_rfl) rfl #[.agg #[.int .i64 a0_0, .int .i64 a0_1, .int .i64 a0_2], .string a2] rfl (by (try simp only [List.map_toArray, List.map_cons, List.map_nil]); first | done | rfl | (simp only [List.length_drop, List.length_take]; rfl)) ?_; (with_reducible refine (clock_Parse.calls k a0_0 a0_1 a0_2 a2 t337 t338 t339 t340 t341 _ A10.out).mono ?_); rintro e w25 ⟨rfl, hb⟩; refine ⟨_, rfl, ?_⟩; have n0_ := Aside0.mk (blk_below (g := gb334) (o := .cells #[.int .i64 a0_0, .int .i64 a0_1, .int .i64 a0_2] 23 (0, 0)) (by (with_reducible repeat (first | refine blk_drewN ?_ _ | refine blk_drew ?_ | refine blk_alloc ?_ _)); exact BK334.out) hb); have n1_ := Aside0.mk (blk_below (g := gb335) (o := .cells #[.int .u32 a1_0, .int .u8 a1_1, .int .i64 a1_2, .int .i64 a1_3] 26 (0, 0)) (by (with_reducible repeat (first | refine blk_drewN ?_ _ | refine blk_drew ?_ | refine blk_alloc ?_ _)); exact BK335.out) hb); have n2_ := Aside0.mk (below_step (by repeat (first | (with_reducible first | exact HB.out | apply below_alloc | apply pw_below_drewN | apply below_drew1 | refine below_set ?_ GE334.out | refine below_set ?_ GE335.out) | exact HB.out)) hb); clear BK334; clear BK335; clear HB; have BK334 := n0_; have BK335 := n1_; have HB := n2_; clear n0_ n1_ n2_; (try clear hb); (try clear hb2); (try clear hk); (try clear hi)) | ((with_reducible refine gate_dst (N := 9) rfl ?_); refine box_event ?hg (N := 9) ?hd (cs := #[.int .u32 0, .int .u8 0, .int .i64 0, .int .i64 0]) (t := 26) ?hr ?_; (case hd => rfl); (case hg => rfl); (case hr => first | (go_simp; done) | (go_simp; rfl)); intro gb342 hg w26 hbox hb; have n0_ := Aside0.mk (blk_below (g := gb334) (o := .cells #[.int .i64 a0_0, .int .i64 a0_1, .int .i64 a0_2] 23 (0, 0)) (by (with_reducible repeat (first | refine blk_drewN ?_ _ | refine blk_drew ?_ | refine blk_alloc ?_ _)); exact BK334.out) hb); have n1_ := Aside0.mk (blk_below (g := gb335) (o := .cells #[.int .u32 a1_0, .int .u8 a1_1, .int .i64 a1_2, .int .i64 a1_3] 26 (0, 0)) (by (with_reducible repeat (first | refine blk_drewN ?_ _ | refine blk_drew ?_ | refine blk_alloc ?_ _)); exact BK335.out) hb); have n2_ := Aside0.mk (below_step (by repeat (first | (with_reducible first | exact HB.out | apply below_alloc | apply pw_below_drewN | apply below_drew1 | refine below_set ?_ GE334.out | refine below_set ?_ GE335.out) | exact HB.out)) hb); have n3_ := Aside0.mk (hbox); have n4_ := Aside0.mk ((by rw [hg]; exact (below_size (by repeat (first | (with_reducible first | exact HB.out | apply below_alloc | apply pw_below_drewN | apply below_drew1 | refine below_set ?_ GE334.out | refine below_set ?_ GE335.out) | exact HB.out))) : w.heap.size ≤ gb342)); have n5_ := Aside0.mk ((by rw [hg]; exact (below_size (by repeat (first | (with_reducible first | exact HB.out | apply below_alloc | apply pw_below_drewN | apply below_drew1 | refine below_set ?_ GE334.out | refine below_set ?_ GE335.out) | exact HB.out))) : w.heap.size ≤ gb342)); have n6_ := Aside0.mk ((by rw [hg]; exact Nat.ne_of_lt (blk_lt (g := gb334) (o := .cells #[.int .i64 a0_0, .int .i64 a0_1, .int .i64 a0_2] 23 (0, 0)) (by (with_reducible repeat (first | refine blk_drewN ?_ _ | refine blk_drew ?_ | refine blk_alloc ?_ _)); exact BK334.out)) : gb334 ≠ gb342)); have n7_ := Aside0.mk ((by rw [hg]; exact Nat.ne_of_gt (blk_lt (g := gb334) (o := .cells #[.int .i64 a0_0, .int .i64 a0_1, .int .i64 a0_2] 23 (0, 0)) (by (with_reducible repeat (first | refine blk_drewN ?_ _ | refine blk_drew ?_ | refine blk_alloc ?_ _)); exact BK334.out)) : gb342 ≠ gb334)); have n8_ := Aside0.mk ((by rw [hg]; exact Nat.ne_of_lt (blk_lt (g := gb335) (o := .cells #[.int .u32 a1_0, .int .u8 a1_1, .int .i64 a1_2, .int .i64 a1_3] 26 (0, 0)) (by (with_reducible repeat (first | refine blk_drewN ?_ _ | refine blk_drew ?_ | refine blk_alloc ?_ _)); exact BK335.out)) : gb335 ≠ gb342)); have n9_ := Aside0.mk ((by rw [hg]; exact Nat.ne_of_gt (blk_lt (g := gb335) (o := .cells #[.int .u32 a1_0, .int .u8 a1_1, .int .i64 a1_2, .int .i64 a1_3] 26 (0, 0)) (by (with_reducible repeat (first | refine blk_drewN ?_ _ | refine blk_drew ?_ | refine blk_alloc ?_ _)); exact BK335.out)) : gb342 ≠ gb335)); clear BK334; clear BK335; clear HB; have BK334 := n0_; have BK335 := n1_; have HB := n2_; have BK342 := n3_; have GW342 := n4_; have GE342 := n5_; have NB334_342 := n6_; have NB342_334 := n7_; have NB335_342 := n8_; have NB342_335 := n9_; clear n0_ n1_ n2_ n3_ n4_ n5_ n6_ n7_ n8_ n9_; clear hb hbox hg; have hnb27 := NB342_334.out; have hnc27 := NB334_342.out; have hnb28 := NB342_335.out; have hnc28 := NB335_342.out; have hcz29_0 : w26.cell? ⟨gb342, 0, none⟩ = some (.int .u32 0) := (blk_cell BK342.out 0).trans rfl; have hcz29_1 : w26.cell? ⟨gb342, 1, none⟩ = some (.int .u8 0) := (blk_cell BK342.out 1).trans rfl; have hcz29_2 : w26.cell? ⟨gb342, 2, none⟩ = some (.int .i64 0) := (blk_cell BK342.out 2).trans rfl; have hcz29_3 : w26.cell? ⟨gb342, 3, none⟩ = some (.int .i64 0) := (blk_cell BK342.out 3).trans rfl; have hfz29_0 := blk_frozen BK342.out 0; have hfz29_1 := blk_frozen BK342.out 1; have hfz29_2 := blk_frozen BK342.out 2; have hfz29_3 := blk_frozen BK342.out 3; have hcz30_0 : w26.cell? ⟨gb334, 0, none⟩ = some (.int .i64 a0_0) := (blk_cell BK334.out 0).trans rfl; have hcz30_1 : w26.cell? ⟨gb334, 1, none⟩ = some (.int .i64 a0_1) := (blk_cell BK334.out 1).trans rfl; have hcz30_2 : w26.cell? ⟨gb334, 2, none⟩ = some (.int .i64 a0_2) := (blk_cell BK334.out 2).trans rfl; have hfz30_0 := blk_frozen BK334.out 0; have hfz30_1 := blk_frozen BK334.out 1; have hfz30_2 := blk_frozen BK334.out 2) | ((with_reducible refine gate_callee (f := 12) rfl ?_); refine goesL_ (some 26) rfl rfl Tryd.func12 (by kernel_rfl) rfl #[.agg #[.int .i64 a0_0, .int .i64 a0_1, .int .i64 a0_2], .string a2] rfl (by (try simp only [List.map_toArray, List.map_cons, List.map_nil]); first | done | rfl | (simp only [List.length_drop, List.length_take]; rfl)) ?_; (with_reducible refine (horariumref10_Parse.calls k a0_0 a0_1 a0_2 a2 t343 t344 t345 t346 t347 _ A11.out).mono ?_); rintro e w31 ⟨rfl, hb⟩; refine ⟨_, rfl, ?_⟩; have n0_ := Aside0.mk (blk_below (g := gb334) (o := .cells #[.int .i64 a0_0, .int .i64 a0_1, .int .i64 a0_2] 23 (0, 0)) (by (with_reducible repeat (first | refine blk_drewN ?_ _ | refine blk_drew ?_ | refine blk_alloc ?_ _)); refine blk_far ?_ NB334_342.out _; (with_reducible repeat (first | refine blk_drewN ?_ _ | refine blk_drew ?_ | refine blk_alloc ?_ _)); refine blk_far ?_ NB334_342.out _; (with_reducible repeat (first | refine blk_drewN ?_ _ | refine blk_drew ?_ | refine blk_alloc ?_ _)); refine blk_far ?_ NB334_342.out _; (with_reducible repeat (first | refine blk_drewN ?_ _ | refine blk_drew ?_ | refine blk_alloc ?_ _)); refine blk_far ?_ NB334_342.out _; (with_reducible repeat (first | refine blk_drewN ?_ _ | refine blk_drew ?_ | refine blk_alloc ?_ _)); exact BK334.out) hb); have n1_ := Aside0.mk (blk_below (g := gb335) (o := .cells #[.int .u32 a1_0, .int .u8 a1_1, .int .i64 a1_2, .int .i64 a1_3] 26 (0, 0)) (by (with_reducible repeat (first | refine blk_drewN ?_ _ | refine blk_drew ?_ | refine blk_alloc ?_ _)); refine blk_far ?_ NB335_342.out _; (with_reducible repeat (first | refine blk_drewN ?_ _ | refine blk_drew ?_ | refine blk_alloc ?_ _)); refine blk_far ?_ NB335_342.out _; (with_reducible repeat (first | refine blk_drewN ?_ _ | refine blk_drew ?_ | refine blk_alloc ?_ _)); refine blk_far ?_ NB335_342.out _; (with_reducible repeat (first | refine blk_drewN ?_ _ | refine blk_drew ?_ | refine blk_alloc ?_ _)); refine blk_far ?_ NB335_342.out _; (with_reducible repeat (first | refine blk_drewN ?_ _ | refine blk_drew ?_ | refine blk_alloc ?_ _)); exact BK335.out) hb); have n2_ := Aside0.mk (blk_below (g := gb342) (o := .cells #[.int .u32 t337, .int .u8 t338, .int .i64 t339, .int .i64 t340] 26 (0, 0)) (by (with_reducible repeat (first | refine blk_drewN ?_ _ | refine blk_drew ?_ | refine blk_alloc ?_ _)); refine blk_put (cs := #[.int .u32 t337, .int .u8 t338, .int .i64 t339, .int .i64 0]) ?_ 3 _ rfl; (with_reducible repeat (first | refine blk_drewN ?_ _ | refine blk_drew ?_ | refine blk_alloc ?_ _)); refine blk_put (cs := #[.int .u32 t337, .int .u8 t338, .int .i64 0, .int .i64 0]) ?_ 2 _ rfl; (with_reducible repeat (first | refine blk_drewN ?_ _ | refine blk_drew ?_ | refine blk_alloc ?_ _)); refine blk_put (cs := #[.int .u32 t337, .int .u8 0, .int .i64 0, .int .i64 0]) ?_ 1 _ rfl; (with_reducible repeat (first | refine blk_drewN ?_ _ | refine blk_drew ?_ | refine blk_alloc ?_ _)); refine blk_put (cs := #[.int .u32 0, .int .u8 0, .int .i64 0, .int .i64 0]) ?_ 0 _ rfl; (with_reducible repeat (first | refine blk_drewN ?_ _ | refine blk_drew ?_ | refine blk_alloc ?_ _)); exact BK342.out) hb); have n3_ := Aside0.mk (below_step (by repeat (first | (with_reducible first | exact HB.out | apply below_alloc | apply pw_below_drewN | apply below_drew1 | refine below_set ?_ GE334.out | refine below_set ?_ GE335.out | refine below_set ?_ GE342.out) | exact HB.out)) hb); clear BK334; clear BK335; clear BK342; clear HB; have BK334 := n0_; have BK335 := n1_; have BK342 := n2_; have HB := n3_; clear n0_ n1_ n2_ n3_; (try clear hb); (try clear hb2); (try clear hk); (try clear hi)) | ((with_reducible refine gate_dst (N := 11) rfl ?_); refine box_event ?hg (N := 11) ?hd (cs := #[.int .u32 0, .int .u8 0, .int .i64 0, .int .i64 0]) (t := 26) ?hr ?_; (case hd => rfl); (case hg => rfl); (case hr => first | (go_simp; done) | (go_simp; rfl)); intro gb348 hg w32 hbox hb; have n0_ := Aside0.mk (blk_below (g := gb334) (o := .cells #[.int .i64 a0_0, .int .i64 a0_1, .int .i64 a0_2] 23 (0, 0)) (by (with_reducible repeat (first | refine blk_drewN ?_ _ | refine blk_drew ?_ | refine blk_alloc ?_ _)); exact BK334.out) hb); have n1_ := Aside0.mk (blk_below (g := gb335) (o := .cells #[.int .u32 a1_0, .int .u8 a1_1, .int .i64 a1_2, .int .i64 a1_3] 26 (0, 0)) (by (with_reducible repeat (first | refine blk_drewN ?_ _ | refine blk_drew ?_ | refine blk_alloc ?_ _)); exact BK335.out) hb); have n2_ := Aside0.mk (blk_below (g := gb342) (o := .cells #[.int .u32 t337, .int .u8 t338, .int .i64 t339, .int .i64 t340] 26 (0, 0)) (by (with_reducible repeat (first | refine blk_drewN ?_ _ | refine blk_drew ?_ | refine blk_alloc ?_ _)); exact BK342.out) hb); have n3_ := Aside0.mk (below_step (by repeat (first | (with_reducible first | exact HB.out | apply below_alloc | apply pw_below_drewN | apply below_drew1 | refine below_set ?_ GE334.out | refine below_set ?_ GE335.out | refine below_set ?_ GE342.out) | exact HB.out)) hb); have n4_ := Aside0.mk (hbox); have n5_ := Aside0.mk ((by rw [hg]; exact (below_size (by repeat (first | (with_reducible first | exact HB.out | apply below_alloc | apply pw_below_drewN | apply below_drew1 | refine below_set ?_ GE334.out | refine below_set ?_ GE335.out | refine below_set ?_ GE342.out) | exact HB.out))) : w.heap.size ≤ gb348)); have n6_ := Aside0.mk ((by rw [hg]; exact (below_size (by repeat (first | (with_reducible first | exact HB.out | apply below_alloc | apply pw_below_drewN | apply below_drew1 | refine below_set ?_ GE334.out | refine below_set ?_ GE335.out | refine below_set ?_ GE342.out) | exact HB.out))) : w.heap.size ≤ gb348)); have n7_ := Aside0.mk ((by rw [hg]; exact Nat.ne_of_lt (blk_lt (g := gb334) (o := .cells #[.int .i64 a0_0, .int .i64 a0_1, .int .i64 a0_2] 23 (0, 0)) (by (with_reducible repeat (first | refine blk_drewN ?_ _ | refine blk_drew ?_ | refine blk_alloc ?_ _)); exact BK334.out)) : gb334 ≠ gb348)); have n8_ := Aside0.mk ((by rw [hg]; exact Nat.ne_of_gt (blk_lt (g := gb334) (o := .cells #[.int .i64 a0_0, .int .i64 a0_1, .int .i64 a0_2] 23 (0, 0)) (by (with_reducible repeat (first | refine blk_drewN ?_ _ | refine blk_drew ?_ | refine blk_alloc ?_ _)); exact BK334.out)) : gb348 ≠ gb334)); have n9_ := Aside0.mk ((by rw [hg]; exact Nat.ne_of_lt (blk_lt (g := gb335) (o := .cells #[.int .u32 a1_0, .int .u8 a1_1, .int .i64 a1_2, .int .i64 a1_3] 26 (0, 0)) (by (with_reducible repeat (first | refine blk_drewN ?_ _ | refine blk_drew ?_ | refine blk_alloc ?_ _)); exact BK335.out)) : gb335 ≠ gb348)); have n10_ := Aside0.mk ((by rw [hg]; exact Nat.ne_of_gt (blk_lt (g := gb335) (o := .cells #[.int .u32 a1_0, .int .u8 a1_1, .int .i64 a1_2, .int .i64 a1_3] 26 (0, 0)) (by (with_reducible repeat (first | refine blk_drewN ?_ _ | refine blk_drew ?_ | refine blk_alloc ?_ _)); exact BK335.out)) : gb348 ≠ gb335)); have n11_ := Aside0.mk ((by rw [hg]; exact Nat.ne_of_lt (blk_lt (g := gb342) (o := .cells #[.int .u32 t337, .int .u8 t338, .int .i64 t339, .int .i64 t340] 26 (0, 0)) (by (with_reducible repeat (first | refine blk_drewN ?_ _ | refine blk_drew ?_ | refine blk_alloc ?_ _)); exact BK342.out)) : gb342 ≠ gb348)); have n12_ := Aside0.mk ((by rw [hg]; exact Nat.ne_of_gt (blk_lt (g := gb342) (o := .cells #[.int .u32 t337, .int .u8 t338, .int .i64 t339, .int .i64 t340] 26 (0, 0)) (by (with_reducible repeat (first | refine blk_drewN ?_ _ | refine blk_drew ?_ | refine blk_alloc ?_ _)); exact BK342.out)) : gb348 ≠ gb342)); clear BK334; clear BK335; clear BK342; clear HB; have BK334 := n0_; have BK335 := n1_; have BK342 := n2_; have HB := n3_; have BK348 := n4_; have GW348 := n5_; have GE348 := n6_; have NB334_348 := n7_; have NB348_334 := n8_; have NB335_348 := n9_; have NB348_335 := n10_; have NB342_348 := n11_; have NB348_342 := n12_; clear n0_ n1_ n2_ n3_ n4_ n5_ n6_ n7_ n8_ n9_ n10_ n11_ n12_; clear hb hbox hg; have hnb33 := NB348_334.out; have hnc33 := NB334_348.out; have hnb34 := NB348_335.out; have hnc34 := NB335_348.out; have hnb35 := NB348_342.out; have hnc35 := NB342_348.out; have hcz36_0 : w32.cell? ⟨gb348, 0, none⟩ = some (.int .u32 0) := (blk_cell BK348.out 0).trans rfl; have hcz36_1 : w32.cell? ⟨gb348, 1, none⟩ = some (.int .u8 0) := (blk_cell BK348.out 1).trans rfl; have hcz36_2 : w32.cell? ⟨gb348, 2, none⟩ = some (.int .i64 0) := (blk_cell BK348.out 2).trans rfl; have hcz36_3 : w32.cell? ⟨gb348, 3, none⟩ = some (.int .i64 0) := (blk_cell BK348.out 3).trans rfl; have hfz36_0 := blk_frozen BK348.out 0; have hfz36_1 := blk_frozen BK348.out 1; have hfz36_2 := blk_frozen BK348.out 2; have hfz36_3 := blk_frozen BK348.out 3))
            have n0_ : Aside0 (((((w32.setCell ⟨gb348, 0, none⟩ (.int .u32 t343)).setCell ⟨gb348, 1, none⟩ (.int .u8 t344)).setCell ⟨gb348, 2, none⟩ (.int .i64 t345)).setCell ⟨gb348, 3, none⟩ (.int .i64 t346)).heap[gb334]? = some (.cells #[.int .i64 a0_0, .int .i64 a0_1, .int .i64 a0_2] 23 (0, 0))) := ⟨by (with_reducible repeat (first | refine blk_drewN ?_ _ | refine blk_drew ?_ | refine blk_alloc ?_ _)); refine blk_far ?_ NB334_348.out _; (with_reducible repeat (first | refine blk_drewN ?_ _ | refine blk_drew ?_ | refine blk_alloc ?_ _)); refine blk_far ?_ NB334_348.out _; (with_reducible repeat (first | refine blk_drewN ?_ _ | refine blk_drew ?_ | refine blk_alloc ?_ _)); refine blk_far ?_ NB334_348.out _; (with_reducible repeat (first | refine blk_drewN ?_ _ | refine blk_drew ?_ | refine blk_alloc ?_ _)); refine blk_far ?_ NB334_348.out _; (with_reducible repeat (first | refine blk_drewN ?_ _ | refine blk_drew ?_ | refine blk_alloc ?_ _)); exact BK334.out⟩
            have n1_ : Aside0 (((((w32.setCell ⟨gb348, 0, none⟩ (.int .u32 t343)).setCell ⟨gb348, 1, none⟩ (.int .u8 t344)).setCell ⟨gb348, 2, none⟩ (.int .i64 t345)).setCell ⟨gb348, 3, none⟩ (.int .i64 t346)).heap[gb335]? = some (.cells #[.int .u32 a1_0, .int .u8 a1_1, .int .i64 a1_2, .int .i64 a1_3] 26 (0, 0))) := ⟨by (with_reducible repeat (first | refine blk_drewN ?_ _ | refine blk_drew ?_ | refine blk_alloc ?_ _)); refine blk_far ?_ NB335_348.out _; (with_reducible repeat (first | refine blk_drewN ?_ _ | refine blk_drew ?_ | refine blk_alloc ?_ _)); refine blk_far ?_ NB335_348.out _; (with_reducible repeat (first | refine blk_drewN ?_ _ | refine blk_drew ?_ | refine blk_alloc ?_ _)); refine blk_far ?_ NB335_348.out _; (with_reducible repeat (first | refine blk_drewN ?_ _ | refine blk_drew ?_ | refine blk_alloc ?_ _)); refine blk_far ?_ NB335_348.out _; (with_reducible repeat (first | refine blk_drewN ?_ _ | refine blk_drew ?_ | refine blk_alloc ?_ _)); exact BK335.out⟩
            have n2_ : Aside0 (((((w32.setCell ⟨gb348, 0, none⟩ (.int .u32 t343)).setCell ⟨gb348, 1, none⟩ (.int .u8 t344)).setCell ⟨gb348, 2, none⟩ (.int .i64 t345)).setCell ⟨gb348, 3, none⟩ (.int .i64 t346)).heap[gb342]? = some (.cells #[.int .u32 t337, .int .u8 t338, .int .i64 t339, .int .i64 t340] 26 (0, 0))) := ⟨by (with_reducible repeat (first | refine blk_drewN ?_ _ | refine blk_drew ?_ | refine blk_alloc ?_ _)); refine blk_far ?_ NB342_348.out _; (with_reducible repeat (first | refine blk_drewN ?_ _ | refine blk_drew ?_ | refine blk_alloc ?_ _)); refine blk_far ?_ NB342_348.out _; (with_reducible repeat (first | refine blk_drewN ?_ _ | refine blk_drew ?_ | refine blk_alloc ?_ _)); refine blk_far ?_ NB342_348.out _; (with_reducible repeat (first | refine blk_drewN ?_ _ | refine blk_drew ?_ | refine blk_alloc ?_ _)); refine blk_far ?_ NB342_348.out _; (with_reducible repeat (first | refine blk_drewN ?_ _ | refine blk_drew ?_ | refine blk_alloc ?_ _)); exact BK342.out⟩
            have n3_ : Aside0 (((((w32.setCell ⟨gb348, 0, none⟩ (.int .u32 t343)).setCell ⟨gb348, 1, none⟩ (.int .u8 t344)).setCell ⟨gb348, 2, none⟩ (.int .i64 t345)).setCell ⟨gb348, 3, none⟩ (.int .i64 t346)).heap[gb348]? = some (.cells #[.int .u32 t343, .int .u8 t344, .int .i64 t345, .int .i64 t346] 26 (0, 0))) := ⟨by (with_reducible repeat (first | refine blk_drewN ?_ _ | refine blk_drew ?_ | refine blk_alloc ?_ _)); refine blk_put (cs := #[.int .u32 t343, .int .u8 t344, .int .i64 t345, .int .i64 0]) ?_ 3 _ rfl; (with_reducible repeat (first | refine blk_drewN ?_ _ | refine blk_drew ?_ | refine blk_alloc ?_ _)); refine blk_put (cs := #[.int .u32 t343, .int .u8 t344, .int .i64 0, .int .i64 0]) ?_ 2 _ rfl; (with_reducible repeat (first | refine blk_drewN ?_ _ | refine blk_drew ?_ | refine blk_alloc ?_ _)); refine blk_put (cs := #[.int .u32 t343, .int .u8 0, .int .i64 0, .int .i64 0]) ?_ 1 _ rfl; (with_reducible repeat (first | refine blk_drewN ?_ _ | refine blk_drew ?_ | refine blk_alloc ?_ _)); refine blk_put (cs := #[.int .u32 0, .int .u8 0, .int .i64 0, .int .i64 0]) ?_ 0 _ rfl; (with_reducible repeat (first | refine blk_drewN ?_ _ | refine blk_drew ?_ | refine blk_alloc ?_ _)); exact BK348.out⟩
            have n4_ : Aside0 (Below w.heap.size w ((((w32.setCell ⟨gb348, 0, none⟩ (.int .u32 t343)).setCell ⟨gb348, 1, none⟩ (.int .u8 t344)).setCell ⟨gb348, 2, none⟩ (.int .i64 t345)).setCell ⟨gb348, 3, none⟩ (.int .i64 t346))) := ⟨by repeat (first | (with_reducible first | exact HB.out | apply below_alloc | apply pw_below_drewN | apply below_drew1 | refine below_set ?_ GE334.out | refine below_set ?_ GE335.out | refine below_set ?_ GE342.out | refine below_set ?_ GE348.out) | exact HB.out)⟩
            (try clear BK334)
            (try clear BK335)
            (try clear BK342)
            (try clear BK348)
            (try clear HB)
            generalize ((((w32.setCell ⟨gb348, 0, none⟩ (.int .u32 t343)).setCell ⟨gb348, 1, none⟩ (.int .u8 t344)).setCell ⟨gb348, 2, none⟩ (.int .i64 t345)).setCell ⟨gb348, 3, none⟩ (.int .i64 t346)) = w37 at n0_ n1_ n2_ n3_ n4_ ⊢
            have BK334 := n0_
            have BK335 := n1_
            have BK342 := n2_
            have BK348 := n3_
            have HB := n4_
            clear n0_ n1_ n2_ n3_ n4_
            have n0_ := Aside0.mk (blk_drew BK334.out)
            have n1_ := Aside0.mk (blk_drew BK335.out)
            have n2_ := Aside0.mk (blk_drew BK342.out)
            have n3_ := Aside0.mk (blk_drew BK348.out)
            have n4_ := Aside0.mk (below_drew1 HB.out)
            clear BK334
            clear BK335
            clear BK342
            clear BK348
            clear HB
            have BK334 := n0_
            have BK335 := n1_
            have BK342 := n2_
            have BK348 := n3_
            have HB := n4_
            clear n0_ n1_ n2_ n3_ n4_
            refine start_ (n := 30) (S := fun w' => w'.cell? ⟨gb334, 0, none⟩ = some (.int .i64 a0_0) ∧ w'.cell? ⟨gb334, 1, none⟩ = some (.int .i64 a0_1) ∧ w'.cell? ⟨gb334, 2, none⟩ = some (.int .i64 a0_2) ∧ w'.cell? ⟨gb335, 0, none⟩ = some (.int .u32 a1_0) ∧ w'.cell? ⟨gb335, 1, none⟩ = some (.int .u8 a1_1) ∧ w'.cell? ⟨gb335, 2, none⟩ = some (.int .i64 a1_2) ∧ w'.cell? ⟨gb335, 3, none⟩ = some (.int .i64 a1_3) ∧ w'.cell? ⟨gb342, 0, none⟩ = some (.int .u32 t337) ∧ w'.cell? ⟨gb342, 1, none⟩ = some (.int .u8 t338) ∧ w'.cell? ⟨gb342, 2, none⟩ = some (.int .i64 t339) ∧ w'.cell? ⟨gb342, 3, none⟩ = some (.int .i64 t340) ∧ w'.cell? ⟨gb348, 0, none⟩ = some (.int .u32 t343) ∧ w'.cell? ⟨gb348, 1, none⟩ = some (.int .u8 t344) ∧ w'.cell? ⟨gb348, 2, none⟩ = some (.int .i64 t345) ∧ w'.cell? ⟨gb348, 3, none⟩ = some (.int .i64 t346)) (ds := []) #[false, false, false, false, false, false, false, false, false, false, false, false, false, false, false, false, false, false, false, false, false, false, false, false, false, false, false, false, false, false] (by kernel_rfl) rfl rfl ⟨(blk_cell BK334.out 0).trans rfl, (blk_cell BK334.out 1).trans rfl, (blk_cell BK334.out 2).trans rfl, (blk_cell BK335.out 0).trans rfl, (blk_cell BK335.out 1).trans rfl, (blk_cell BK335.out 2).trans rfl, (blk_cell BK335.out 3).trans rfl, (blk_cell BK342.out 0).trans rfl, (blk_cell BK342.out 1).trans rfl, (blk_cell BK342.out 2).trans rfl, (blk_cell BK342.out 3).trans rfl, (blk_cell BK348.out 0).trans rfl, (blk_cell BK348.out 1).trans rfl, (blk_cell BK348.out 2).trans rfl, (blk_cell BK348.out 3).trans rfl⟩ (fun hHeld => ?_); refine with_tabW horariumlaw10_ClockTells.tab5 horariumlaw10_ClockTells.bits5 (fun HT_ HW_ => ?_)
            generalize w37.drew = w38 at BK334 BK335 BK342 BK348 HB hHeld ⊢
            refine take_ (i := 0) (N := some 29) (v := ?_) (a' := ?_) #[true, false, false, false, false, false, false, false, false, false, false, false, false, false, false, false, false, false, false, false, false, false, false, false, false, false, false, false, false, false] rfl rfl (take_ofW HT_.out HW_.out (by kernel_rfl)) (fun _ _ _ h => h) (Or.inl ⟨by rfl, ?_⟩) hHeld ?_ ?_
            rotate_left
            · rintro w' ⟨s0, s1, s2, s3, s4, s5, s6, s7, s8, s9, s10, s11, s12, s13, s14⟩
              go_simp
              with_reducible rfl
            rotate_left
            · simp only [Act.put, List.setIfInBounds_toArray, List.set_cons_zero, List.set_cons_succ, i64_w, i32_w]
              rfl
            refine take_ (i := 1) (N := some 30) (v := ?_) (a' := ?_) #[true, true, false, false, false, false, false, false, false, false, false, false, false, false, false, false, false, false, false, false, false, false, false, false, false, false, false, false, false, false] rfl rfl (take_ofW HT_.out HW_.out (by kernel_rfl)) (fun _ _ _ h => h) (Or.inl ⟨by rfl, ?_⟩) hHeld ?_ ?_
            rotate_left
            · rintro w' ⟨s0, s1, s2, s3, s4, s5, s6, s7, s8, s9, s10, s11, s12, s13, s14⟩
              go_simp
              with_reducible rfl
            rotate_left
            · simp only [Act.put, List.setIfInBounds_toArray, List.set_cons_zero, List.set_cons_succ, i64_w, i32_w]
              rfl
            refine take_ (i := 3) (N := some 32) (v := ?_) (a' := ?_) #[true, true, false, true, false, false, false, false, false, false, false, false, false, false, false, false, false, false, false, false, false, false, false, false, false, false, false, false, false, false] rfl rfl (take_ofW HT_.out HW_.out (by kernel_rfl)) (fun _ _ _ h => h) (Or.inl ⟨by rfl, ?_⟩) hHeld ?_ ?_
            rotate_left
            · rintro w' ⟨s0, s1, s2, s3, s4, s5, s6, s7, s8, s9, s10, s11, s12, s13, s14⟩
              go_simp
              with_reducible rfl
            rotate_left
            · simp only [Act.put, List.setIfInBounds_toArray, List.set_cons_zero, List.set_cons_succ, i64_w, i32_w]
              rfl
            refine take_ (i := 4) (N := some 33) (v := ?_) (a' := ?_) #[true, true, false, true, true, false, false, false, false, false, false, false, false, false, false, false, false, false, false, false, false, false, false, false, false, false, false, false, false, false] rfl rfl (take_ofW HT_.out HW_.out (by kernel_rfl)) (fun _ _ _ h => h) (Or.inl ⟨by rfl, ?_⟩) hHeld ?_ ?_
            rotate_left
            · rintro w' ⟨s0, s1, s2, s3, s4, s5, s6, s7, s8, s9, s10, s11, s12, s13, s14⟩
              go_simp
              with_reducible rfl
            rotate_left
            · simp only [Act.put, List.setIfInBounds_toArray, List.set_cons_zero, List.set_cons_succ, i64_w, i32_w]
              rfl
            refine one_ (i := 2) (N := some 31) #[true, true, true, true, true, false, false, false, false, false, false, false, false, false, false, false, false, false, false, false, false, false, false, false, false, false, false, false, false, false] rfl rfl (one_of HT_.out (by kernel_rfl)) (by decide) (fun K hK => ?_)
            refine goes_ Tryd.func10 (by kernel_rfl) rfl #[.agg #[.int .i64 a0_0, .int .i64 a0_1, .int .i64 a0_2], .agg #[.int .u32 a1_0, .int .u8 a1_1, .int .i64 a1_2, .int .i64 a1_3]] (by rfl) rfl rfl (by (try simp only [List.map_toArray, List.map_cons, List.map_nil]); first | done | rfl | (simp only [List.length_drop, List.length_take]; rfl)) ?_
            with_reducible refine (clock_Print.calls k a0_0 a0_1 a0_2 a1_0 a1_1 a1_2 a1_3 t349 _ A12.out).mono ?_
            rintro e w39 ⟨rfl, hb⟩
            refine ⟨_, rfl, ?_⟩
            have n0_ := Aside0.mk (blk_below (g := gb334) (o := .cells #[.int .i64 a0_0, .int .i64 a0_1, .int .i64 a0_2] 23 (0, 0)) (by (with_reducible repeat (first | refine blk_drewN ?_ _ | refine blk_drew ?_ | refine blk_alloc ?_ _)); exact BK334.out) hb)
            have n1_ := Aside0.mk (blk_below (g := gb335) (o := .cells #[.int .u32 a1_0, .int .u8 a1_1, .int .i64 a1_2, .int .i64 a1_3] 26 (0, 0)) (by (with_reducible repeat (first | refine blk_drewN ?_ _ | refine blk_drew ?_ | refine blk_alloc ?_ _)); exact BK335.out) hb)
            have n2_ := Aside0.mk (blk_below (g := gb342) (o := .cells #[.int .u32 t337, .int .u8 t338, .int .i64 t339, .int .i64 t340] 26 (0, 0)) (by (with_reducible repeat (first | refine blk_drewN ?_ _ | refine blk_drew ?_ | refine blk_alloc ?_ _)); exact BK342.out) hb)
            have n3_ := Aside0.mk (blk_below (g := gb348) (o := .cells #[.int .u32 t343, .int .u8 t344, .int .i64 t345, .int .i64 t346] 26 (0, 0)) (by (with_reducible repeat (first | refine blk_drewN ?_ _ | refine blk_drew ?_ | refine blk_alloc ?_ _)); exact BK348.out) hb)
            have n4_ := Aside0.mk (below_step (by repeat (first | (with_reducible first | exact HB.out | apply below_alloc | apply pw_below_drewN | apply below_drew1 | refine below_set ?_ GE334.out | refine below_set ?_ GE335.out | refine below_set ?_ GE342.out | refine below_set ?_ GE348.out) | exact HB.out)) hb)
            clear BK334
            clear BK335
            clear BK342
            clear BK348
            clear HB
            have BK334 := n0_
            have BK335 := n1_
            have BK342 := n2_
            have BK348 := n3_
            have HB := n4_
            clear n0_ n1_ n2_ n3_ n4_
            (try clear hb)
            (try clear hb2)
            (try clear hk)
            (try clear hi)
            refine hK.out _ _ ⟨(blk_cell BK334.out 0).trans rfl, (blk_cell BK334.out 1).trans rfl, (blk_cell BK334.out 2).trans rfl, (blk_cell BK335.out 0).trans rfl, (blk_cell BK335.out 1).trans rfl, (blk_cell BK335.out 2).trans rfl, (blk_cell BK335.out 3).trans rfl, (blk_cell BK342.out 0).trans rfl, (blk_cell BK342.out 1).trans rfl, (blk_cell BK342.out 2).trans rfl, (blk_cell BK342.out 3).trans rfl, (blk_cell BK348.out 0).trans rfl, (blk_cell BK348.out 1).trans rfl, (blk_cell BK348.out 2).trans rfl, (blk_cell BK348.out 3).trans rfl⟩ (fun hHeld => ?_)
            clear hK K
            refine norm_ (a' := ?_) ?_ ?_
            rotate_left
            · show Act.put _ (some 31) _ = _
              simp only [Act.put, List.setIfInBounds_toArray, List.set_cons_zero, List.set_cons_succ, i64_w, i32_w]
              rfl
            refine one_ (i := 5) (N := some 34) #[true, true, true, true, true, true, false, false, false, false, false, false, false, false, false, false, false, false, false, false, false, false, false, false, false, false, false, false, false, false] rfl rfl (one_of HT_.out (by kernel_rfl)) (by decide) (fun K hK => ?_)
            refine goes_ Tryd.func13 (by kernel_rfl) rfl #[.agg #[.int .i64 a0_0, .int .i64 a0_1, .int .i64 a0_2], .agg #[.int .u32 a1_0, .int .u8 a1_1, .int .i64 a1_2, .int .i64 a1_3]] (by rfl) rfl rfl (by (try simp only [List.map_toArray, List.map_cons, List.map_nil]); first | done | rfl | (simp only [List.length_drop, List.length_take]; rfl)) ?_
            with_reducible refine (horariumref10_Print.calls k a0_0 a0_1 a0_2 a1_0 a1_1 a1_2 a1_3 t350 _ A13.out).mono ?_
            rintro e w40 ⟨rfl, hb⟩
            refine ⟨_, rfl, ?_⟩
            have n0_ := Aside0.mk (blk_below (g := gb334) (o := .cells #[.int .i64 a0_0, .int .i64 a0_1, .int .i64 a0_2] 23 (0, 0)) (by (with_reducible repeat (first | refine blk_drewN ?_ _ | refine blk_drew ?_ | refine blk_alloc ?_ _)); exact BK334.out) hb)
            have n1_ := Aside0.mk (blk_below (g := gb335) (o := .cells #[.int .u32 a1_0, .int .u8 a1_1, .int .i64 a1_2, .int .i64 a1_3] 26 (0, 0)) (by (with_reducible repeat (first | refine blk_drewN ?_ _ | refine blk_drew ?_ | refine blk_alloc ?_ _)); exact BK335.out) hb)
            have n2_ := Aside0.mk (blk_below (g := gb342) (o := .cells #[.int .u32 t337, .int .u8 t338, .int .i64 t339, .int .i64 t340] 26 (0, 0)) (by (with_reducible repeat (first | refine blk_drewN ?_ _ | refine blk_drew ?_ | refine blk_alloc ?_ _)); exact BK342.out) hb)
            have n3_ := Aside0.mk (blk_below (g := gb348) (o := .cells #[.int .u32 t343, .int .u8 t344, .int .i64 t345, .int .i64 t346] 26 (0, 0)) (by (with_reducible repeat (first | refine blk_drewN ?_ _ | refine blk_drew ?_ | refine blk_alloc ?_ _)); exact BK348.out) hb)
            have n4_ := Aside0.mk (below_step (by repeat (first | (with_reducible first | exact HB.out | apply below_alloc | apply pw_below_drewN | apply below_drew1 | refine below_set ?_ GE334.out | refine below_set ?_ GE335.out | refine below_set ?_ GE342.out | refine below_set ?_ GE348.out) | exact HB.out)) hb)
            clear BK334
            clear BK335
            clear BK342
            clear BK348
            clear HB
            have BK334 := n0_
            have BK335 := n1_
            have BK342 := n2_
            have BK348 := n3_
            have HB := n4_
            clear n0_ n1_ n2_ n3_ n4_
            (try clear hb)
            (try clear hb2)
            (try clear hk)
            (try clear hi)
            refine hK.out _ _ ⟨(blk_cell BK334.out 0).trans rfl, (blk_cell BK334.out 1).trans rfl, (blk_cell BK334.out 2).trans rfl, (blk_cell BK335.out 0).trans rfl, (blk_cell BK335.out 1).trans rfl, (blk_cell BK335.out 2).trans rfl, (blk_cell BK335.out 3).trans rfl, (blk_cell BK342.out 0).trans rfl, (blk_cell BK342.out 1).trans rfl, (blk_cell BK342.out 2).trans rfl, (blk_cell BK342.out 3).trans rfl, (blk_cell BK348.out 0).trans rfl, (blk_cell BK348.out 1).trans rfl, (blk_cell BK348.out 2).trans rfl, (blk_cell BK348.out 3).trans rfl⟩ (fun hHeld => ?_)
            clear hK K
            refine norm_ (a' := ?_) ?_ ?_
            rotate_left
            · show Act.put _ (some 34) _ = _
              simp only [Act.put, List.setIfInBounds_toArray, List.set_cons_zero, List.set_cons_succ, i64_w, i32_w]
              rfl
            refine pure_ (i := 6) (N := some 35) (v := ?_) (a' := ?_) #[true, true, true, true, true, true, true, false, false, false, false, false, false, false, false, false, false, false, false, false, false, false, false, false, false, false, false, false, false, false] rfl rfl (any_of HT_.out (by kernel_rfl)) (fun _ _ _ h => h) (Or.inl ⟨by rfl, ?_⟩) ?_ ?_
            rotate_left
            · intro w'
              go_simp
              with_reducible rfl
            rotate_left
            · simp only [Act.put, List.setIfInBounds_toArray, List.set_cons_zero, List.set_cons_succ, i64_w, i32_w]
              rfl
            refine pure_ (i := 7) (N := some 36) (v := ?_) (a' := ?_) #[true, true, true, true, true, true, true, true, false, false, false, false, false, false, false, false, false, false, false, false, false, false, false, false, false, false, false, false, false, false] rfl rfl (any_of HT_.out (by kernel_rfl)) (fun _ _ _ h => h) (Or.inl ⟨by rfl, ?_⟩) ?_ ?_
            rotate_left
            · intro w'
              go_simp
              with_reducible rfl
            rotate_left
            · simp only [Act.put, List.setIfInBounds_toArray, List.set_cons_zero, List.set_cons_succ, i64_w, i32_w]
              rfl
            refine take_ (i := 8) (N := some 37) (v := ?_) (a' := ?_) #[true, true, true, true, true, true, true, true, true, false, false, false, false, false, false, false, false, false, false, false, false, false, false, false, false, false, false, false, false, false] rfl rfl (take_ofW HT_.out HW_.out (by kernel_rfl)) (fun _ _ _ h => h) (Or.inl ⟨by rfl, ?_⟩) hHeld ?_ ?_
            rotate_left
            · rintro w' ⟨s0, s1, s2, s3, s4, s5, s6, s7, s8, s9, s10, s11, s12, s13, s14⟩
              go_simp
              with_reducible rfl
            rotate_left
            · simp only [Act.put, List.setIfInBounds_toArray, List.set_cons_zero, List.set_cons_succ, i64_w, i32_w]
              rfl
            refine take_ (i := 9) (N := some 38) (v := ?_) (a' := ?_) #[true, true, true, true, true, true, true, true, true, true, false, false, false, false, false, false, false, false, false, false, false, false, false, false, false, false, false, false, false, false] rfl rfl (take_ofW HT_.out HW_.out (by kernel_rfl)) (fun _ _ _ h => h) (Or.inl ⟨by rfl, ?_⟩) hHeld ?_ ?_
            rotate_left
            · rintro w' ⟨s0, s1, s2, s3, s4, s5, s6, s7, s8, s9, s10, s11, s12, s13, s14⟩
              go_simp
              with_reducible rfl
            rotate_left
            · simp only [Act.put, List.setIfInBounds_toArray, List.set_cons_zero, List.set_cons_succ, i64_w, i32_w]
              rfl
            refine pure_ (i := 10) (N := some 39) (v := ?_) (a' := ?_) #[true, true, true, true, true, true, true, true, true, true, true, false, false, false, false, false, false, false, false, false, false, false, false, false, false, false, false, false, false, false] rfl rfl (any_of HT_.out (by kernel_rfl)) (fun _ _ _ h => h) (Or.inl ⟨by rfl, ?_⟩) ?_ ?_
            rotate_left
            · intro w'
              go_simp
              with_reducible rfl
            rotate_left
            · simp only [Act.put, List.setIfInBounds_toArray, List.set_cons_zero, List.set_cons_succ, i64_w, i32_w]
              rfl
            refine pure_ (i := 11) (N := some 40) (v := ?_) (a' := ?_) #[true, true, true, true, true, true, true, true, true, true, true, true, false, false, false, false, false, false, false, false, false, false, false, false, false, false, false, false, false, false] rfl rfl (any_of HT_.out (by kernel_rfl)) (fun _ _ _ h => h) (Or.inl ⟨by rfl, ?_⟩) ?_ ?_
            rotate_left
            · intro w'
              go_simp
              with_reducible rfl
            rotate_left
            · simp only [Act.put, List.setIfInBounds_toArray, List.set_cons_zero, List.set_cons_succ, i64_w, i32_w]
              rfl
            refine pure_ (i := 12) (N := some 41) (v := ?_) (a' := ?_) #[true, true, true, true, true, true, true, true, true, true, true, true, true, false, false, false, false, false, false, false, false, false, false, false, false, false, false, false, false, false] rfl rfl (any_of HT_.out (by kernel_rfl)) (fun _ _ _ h => h) (Or.inl ⟨by rfl, ?_⟩) ?_ ?_
            rotate_left
            · intro w'
              go_simp
              with_reducible rfl
            rotate_left
            · simp only [Act.put, List.setIfInBounds_toArray, List.set_cons_zero, List.set_cons_succ, i64_w, i32_w]
              rfl
            refine pure_ (i := 13) (N := some 42) (v := ?_) (a' := ?_) #[true, true, true, true, true, true, true, true, true, true, true, true, true, true, false, false, false, false, false, false, false, false, false, false, false, false, false, false, false, false] rfl rfl (any_of HT_.out (by kernel_rfl)) (fun _ _ _ h => h) (Or.inl ⟨by rfl, ?_⟩) ?_ ?_
            rotate_left
            · intro w'
              go_simp
              with_reducible rfl
            rotate_left
            · simp only [Act.put, List.setIfInBounds_toArray, List.set_cons_zero, List.set_cons_succ, i64_w, i32_w]
              rfl
            refine pure_ (i := 14) (N := some 43) (v := ?_) (a' := ?_) #[true, true, true, true, true, true, true, true, true, true, true, true, true, true, true, false, false, false, false, false, false, false, false, false, false, false, false, false, false, false] rfl rfl (any_of HT_.out (by kernel_rfl)) (fun _ _ _ h => h) (Or.inl ⟨by rfl, ?_⟩) ?_ ?_
            rotate_left
            · intro w'
              go_simp
              with_reducible rfl
            rotate_left
            · simp only [Act.put, List.setIfInBounds_toArray, List.set_cons_zero, List.set_cons_succ, i64_w, i32_w]
              rfl
            refine pure_ (i := 15) (N := some 44) (v := ?_) (a' := ?_) #[true, true, true, true, true, true, true, true, true, true, true, true, true, true, true, true, false, false, false, false, false, false, false, false, false, false, false, false, false, false] rfl rfl (any_of HT_.out (by kernel_rfl)) (fun _ _ _ h => h) (Or.inl ⟨by rfl, ?_⟩) ?_ ?_
            rotate_left
            · intro w'
              go_simp
              with_reducible rfl
            rotate_left
            · simp only [Act.put, List.setIfInBounds_toArray, List.set_cons_zero, List.set_cons_succ, i64_w, i32_w]
              rfl
            refine pure_ (i := 16) (N := some 45) (v := ?_) (a' := ?_) #[true, true, true, true, true, true, true, true, true, true, true, true, true, true, true, true, true, false, false, false, false, false, false, false, false, false, false, false, false, false] rfl rfl (any_of HT_.out (by kernel_rfl)) (fun _ _ _ h => h) (Or.inl ⟨by rfl, ?_⟩) ?_ ?_
            rotate_left
            · intro w'
              go_simp
              with_reducible rfl
            rotate_left
            · simp only [Act.put, List.setIfInBounds_toArray, List.set_cons_zero, List.set_cons_succ, i64_w, i32_w]
              rfl
            refine pure_ (i := 17) (N := some 46) (v := ?_) (a' := ?_) #[true, true, true, true, true, true, true, true, true, true, true, true, true, true, true, true, true, true, false, false, false, false, false, false, false, false, false, false, false, false] rfl rfl (any_of HT_.out (by kernel_rfl)) (fun _ _ _ h => h) (Or.inl ⟨by rfl, ?_⟩) ?_ ?_
            rotate_left
            · intro w'
              go_simp
              with_reducible rfl
            rotate_left
            · simp only [Act.put, List.setIfInBounds_toArray, List.set_cons_zero, List.set_cons_succ, i64_w, i32_w]
              rfl
            refine pure_ (i := 19) (N := some 48) (v := ?_) (a' := ?_) #[true, true, true, true, true, true, true, true, true, true, true, true, true, true, true, true, true, true, false, true, false, false, false, false, false, false, false, false, false, false] rfl rfl (any_of HT_.out (by kernel_rfl)) (fun _ _ _ h => h) (Or.inl ⟨by rfl, ?_⟩) ?_ ?_
            rotate_left
            · intro w'
              go_simp
              with_reducible rfl
            rotate_left
            · simp only [Act.put, List.setIfInBounds_toArray, List.set_cons_zero, List.set_cons_succ, i64_w, i32_w]
              rfl
            refine pure_ (i := 22) (N := some 51) (v := ?_) (a' := ?_) #[true, true, true, true, true, true, true, true, true, true, true, true, true, true, true, true, true, true, false, true, false, false, true, false, false, false, false, false, false, false] rfl rfl (any_of HT_.out (by kernel_rfl)) (fun _ _ _ h => h) (Or.inl ⟨by rfl, ?_⟩) ?_ ?_
            rotate_left
            · intro w'
              go_simp
              with_reducible rfl
            rotate_left
            · simp only [Act.put, List.setIfInBounds_toArray, List.set_cons_zero, List.set_cons_succ, i64_w, i32_w]
              rfl
            refine take_ (i := 18) (N := some 47) (v := ?_) (a' := ?_) #[true, true, true, true, true, true, true, true, true, true, true, true, true, true, true, true, true, true, true, true, false, false, true, false, false, false, false, false, false, false] rfl rfl (take_ofW HT_.out HW_.out (by kernel_rfl)) (fun _ _ _ h => h) (Or.inl ⟨by rfl, ?_⟩) hHeld ?_ ?_
            rotate_left
            · rintro w' ⟨s0, s1, s2, s3, s4, s5, s6, s7, s8, s9, s10, s11, s12, s13, s14⟩
              go_simp
              with_reducible rfl
            rotate_left
            · simp only [Act.put, List.setIfInBounds_toArray, List.set_cons_zero, List.set_cons_succ, i64_w, i32_w]
              rfl
            refine take_ (i := 21) (N := some 50) (v := ?_) (a' := ?_) #[true, true, true, true, true, true, true, true, true, true, true, true, true, true, true, true, true, true, true, true, false, true, true, false, false, false, false, false, false, false] rfl rfl (take_ofW HT_.out HW_.out (by kernel_rfl)) (fun _ _ _ h => h) (Or.inl ⟨by rfl, ?_⟩) hHeld ?_ ?_
            rotate_left
            · rintro w' ⟨s0, s1, s2, s3, s4, s5, s6, s7, s8, s9, s10, s11, s12, s13, s14⟩
              go_simp
              with_reducible rfl
            rotate_left
            · simp only [Act.put, List.setIfInBounds_toArray, List.set_cons_zero, List.set_cons_succ, i64_w, i32_w]
              rfl
            refine one_ (i := 20) (N := some 49) #[true, true, true, true, true, true, true, true, true, true, true, true, true, true, true, true, true, true, true, true, true, true, true, false, false, false, false, false, false, false] rfl rfl (one_of HT_.out (by kernel_rfl)) (by decide) (fun K hK => ?_)
            refine goes_ Tryd.func14 (by kernel_rfl) rfl #[.agg #[.int .i64 a0_0, .int .i64 a0_1, .int .i64 a0_2], .int .i64 a3] (by rfl) rfl rfl (by (try simp only [List.map_toArray, List.map_cons, List.map_nil]); first | done | rfl | (simp only [List.length_drop, List.length_take]; rfl)) ?_
            with_reducible refine (clock_Moment.calls a0_0 a0_1 a0_2 a3 t351 _ A17.out).mono ?_
            rintro e w41 ⟨rfl, hb⟩
            refine ⟨_, rfl, ?_⟩
            have n0_ := Aside0.mk (blk_below (g := gb334) (o := .cells #[.int .i64 a0_0, .int .i64 a0_1, .int .i64 a0_2] 23 (0, 0)) (by (with_reducible repeat (first | refine blk_drewN ?_ _ | refine blk_drew ?_ | refine blk_alloc ?_ _)); exact BK334.out) hb)
            have n1_ := Aside0.mk (blk_below (g := gb335) (o := .cells #[.int .u32 a1_0, .int .u8 a1_1, .int .i64 a1_2, .int .i64 a1_3] 26 (0, 0)) (by (with_reducible repeat (first | refine blk_drewN ?_ _ | refine blk_drew ?_ | refine blk_alloc ?_ _)); exact BK335.out) hb)
            have n2_ := Aside0.mk (blk_below (g := gb342) (o := .cells #[.int .u32 t337, .int .u8 t338, .int .i64 t339, .int .i64 t340] 26 (0, 0)) (by (with_reducible repeat (first | refine blk_drewN ?_ _ | refine blk_drew ?_ | refine blk_alloc ?_ _)); exact BK342.out) hb)
            have n3_ := Aside0.mk (blk_below (g := gb348) (o := .cells #[.int .u32 t343, .int .u8 t344, .int .i64 t345, .int .i64 t346] 26 (0, 0)) (by (with_reducible repeat (first | refine blk_drewN ?_ _ | refine blk_drew ?_ | refine blk_alloc ?_ _)); exact BK348.out) hb)
            have n4_ := Aside0.mk (below_step (by repeat (first | (with_reducible first | exact HB.out | apply below_alloc | apply pw_below_drewN | apply below_drew1 | refine below_set ?_ GE334.out | refine below_set ?_ GE335.out | refine below_set ?_ GE342.out | refine below_set ?_ GE348.out) | exact HB.out)) hb)
            clear BK334
            clear BK335
            clear BK342
            clear BK348
            clear HB
            have BK334 := n0_
            have BK335 := n1_
            have BK342 := n2_
            have BK348 := n3_
            have HB := n4_
            clear n0_ n1_ n2_ n3_ n4_
            (try clear hb)
            (try clear hb2)
            (try clear hk)
            (try clear hi)
            refine hK.out _ _ ⟨(blk_cell BK334.out 0).trans rfl, (blk_cell BK334.out 1).trans rfl, (blk_cell BK334.out 2).trans rfl, (blk_cell BK335.out 0).trans rfl, (blk_cell BK335.out 1).trans rfl, (blk_cell BK335.out 2).trans rfl, (blk_cell BK335.out 3).trans rfl, (blk_cell BK342.out 0).trans rfl, (blk_cell BK342.out 1).trans rfl, (blk_cell BK342.out 2).trans rfl, (blk_cell BK342.out 3).trans rfl, (blk_cell BK348.out 0).trans rfl, (blk_cell BK348.out 1).trans rfl, (blk_cell BK348.out 2).trans rfl, (blk_cell BK348.out 3).trans rfl⟩ (fun hHeld => ?_)
            clear hK K
            refine norm_ (a' := ?_) ?_ ?_
            rotate_left
            · show Act.put _ (some 49) _ = _
              simp only [Act.put, List.setIfInBounds_toArray, List.set_cons_zero, List.set_cons_succ, i64_w, i32_w]
              rfl
            refine one_ (i := 23) (N := some 52) #[true, true, true, true, true, true, true, true, true, true, true, true, true, true, true, true, true, true, true, true, true, true, true, true, false, false, false, false, false, false] rfl rfl (one_of HT_.out (by kernel_rfl)) (by decide) (fun K hK => ?_)
            refine goes_ Tryd.func15 (by kernel_rfl) rfl #[.agg #[.int .i64 a0_0, .int .i64 a0_1, .int .i64 a0_2], .int .i64 a3] (by rfl) rfl rfl (by (try simp only [List.map_toArray, List.map_cons, List.map_nil]); first | done | rfl | (simp only [List.length_drop, List.length_take]; rfl)) ?_
            with_reducible refine (horariumref10_Moment.calls k a0_0 a0_1 a0_2 a3 t352 _ A18.out).mono ?_
            rintro e w42 ⟨rfl, hb⟩
            refine ⟨_, rfl, ?_⟩
            have n0_ := Aside0.mk (blk_below (g := gb334) (o := .cells #[.int .i64 a0_0, .int .i64 a0_1, .int .i64 a0_2] 23 (0, 0)) (by (with_reducible repeat (first | refine blk_drewN ?_ _ | refine blk_drew ?_ | refine blk_alloc ?_ _)); exact BK334.out) hb)
            have n1_ := Aside0.mk (blk_below (g := gb335) (o := .cells #[.int .u32 a1_0, .int .u8 a1_1, .int .i64 a1_2, .int .i64 a1_3] 26 (0, 0)) (by (with_reducible repeat (first | refine blk_drewN ?_ _ | refine blk_drew ?_ | refine blk_alloc ?_ _)); exact BK335.out) hb)
            have n2_ := Aside0.mk (blk_below (g := gb342) (o := .cells #[.int .u32 t337, .int .u8 t338, .int .i64 t339, .int .i64 t340] 26 (0, 0)) (by (with_reducible repeat (first | refine blk_drewN ?_ _ | refine blk_drew ?_ | refine blk_alloc ?_ _)); exact BK342.out) hb)
            have n3_ := Aside0.mk (blk_below (g := gb348) (o := .cells #[.int .u32 t343, .int .u8 t344, .int .i64 t345, .int .i64 t346] 26 (0, 0)) (by (with_reducible repeat (first | refine blk_drewN ?_ _ | refine blk_drew ?_ | refine blk_alloc ?_ _)); exact BK348.out) hb)
            have n4_ := Aside0.mk (below_step (by repeat (first | (with_reducible first | exact HB.out | apply below_alloc | apply pw_below_drewN | apply below_drew1 | refine below_set ?_ GE334.out | refine below_set ?_ GE335.out | refine below_set ?_ GE342.out | refine below_set ?_ GE348.out) | exact HB.out)) hb)
            clear BK334
            clear BK335
            clear BK342
            clear BK348
            clear HB
            have BK334 := n0_
            have BK335 := n1_
            have BK342 := n2_
            have BK348 := n3_
            have HB := n4_
            clear n0_ n1_ n2_ n3_ n4_
            (try clear hb)
            (try clear hb2)
            (try clear hk)
            (try clear hi)
            refine hK.out _ _ ⟨(blk_cell BK334.out 0).trans rfl, (blk_cell BK334.out 1).trans rfl, (blk_cell BK334.out 2).trans rfl, (blk_cell BK335.out 0).trans rfl, (blk_cell BK335.out 1).trans rfl, (blk_cell BK335.out 2).trans rfl, (blk_cell BK335.out 3).trans rfl, (blk_cell BK342.out 0).trans rfl, (blk_cell BK342.out 1).trans rfl, (blk_cell BK342.out 2).trans rfl, (blk_cell BK342.out 3).trans rfl, (blk_cell BK348.out 0).trans rfl, (blk_cell BK348.out 1).trans rfl, (blk_cell BK348.out 2).trans rfl, (blk_cell BK348.out 3).trans rfl⟩ (fun hHeld => ?_)
            clear hK K
            refine norm_ (a' := ?_) ?_ ?_
            rotate_left
            · show Act.put _ (some 52) _ = _
              simp only [Act.put, List.setIfInBounds_toArray, List.set_cons_zero, List.set_cons_succ, i64_w, i32_w]
              rfl
            refine pure_ (i := 24) (N := some 53) (v := ?_) (a' := ?_) #[true, true, true, true, true, true, true, true, true, true, true, true, true, true, true, true, true, true, true, true, true, true, true, true, true, false, false, false, false, false] rfl rfl (any_of HT_.out (by kernel_rfl)) (fun _ _ _ h => h) (Or.inl ⟨by rfl, ?_⟩) ?_ ?_
            rotate_left
            · intro w'
              go_simp
              with_reducible rfl
            rotate_left
            · simp only [Act.put, List.setIfInBounds_toArray, List.set_cons_zero, List.set_cons_succ, i64_w, i32_w]
              rfl
            refine pure_ (i := 25) (N := some 54) (v := ?_) (a' := ?_) #[true, true, true, true, true, true, true, true, true, true, true, true, true, true, true, true, true, true, true, true, true, true, true, true, true, true, false, false, false, false] rfl rfl (any_of HT_.out (by kernel_rfl)) (fun _ _ _ h => h) (Or.inl ⟨by rfl, ?_⟩) ?_ ?_
            rotate_left
            · intro w'
              go_simp
              with_reducible rfl
            rotate_left
            · simp only [Act.put, List.setIfInBounds_toArray, List.set_cons_zero, List.set_cons_succ, i64_w, i32_w]
              rfl
            refine pure_ (i := 26) (N := some 55) (v := ?_) (a' := ?_) #[true, true, true, true, true, true, true, true, true, true, true, true, true, true, true, true, true, true, true, true, true, true, true, true, true, true, true, false, false, false] rfl rfl (any_of HT_.out (by kernel_rfl)) (fun _ _ _ h => h) (Or.inl ⟨by rfl, ?_⟩) ?_ ?_
            rotate_left
            · intro w'
              go_simp
              with_reducible rfl
            rotate_left
            · simp only [Act.put, List.setIfInBounds_toArray, List.set_cons_zero, List.set_cons_succ, i64_w, i32_w]
              rfl
            refine one_ (i := 27) (N := some 56) #[true, true, true, true, true, true, true, true, true, true, true, true, true, true, true, true, true, true, true, true, true, true, true, true, true, true, true, true, false, false] rfl rfl (one_of HT_.out (by kernel_rfl)) (by decide) (fun K hK => ?_)
            refine goes_ Tryd.func9 (by kernel_rfl) rfl #[] (by rfl) rfl rfl (by (try simp only [List.map_toArray, List.map_cons, List.map_nil]); first | done | rfl | (simp only [List.length_drop, List.length_take]; rfl)) ?_
            with_reducible refine (horariumlaw10_heads.calls k  t353 _ A20.out).mono ?_
            rintro e w43 ⟨rfl, hb⟩
            refine ⟨_, rfl, ?_⟩
            have n0_ := Aside0.mk (blk_below (g := gb334) (o := .cells #[.int .i64 a0_0, .int .i64 a0_1, .int .i64 a0_2] 23 (0, 0)) (by (with_reducible repeat (first | refine blk_drewN ?_ _ | refine blk_drew ?_ | refine blk_alloc ?_ _)); exact BK334.out) hb)
            have n1_ := Aside0.mk (blk_below (g := gb335) (o := .cells #[.int .u32 a1_0, .int .u8 a1_1, .int .i64 a1_2, .int .i64 a1_3] 26 (0, 0)) (by (with_reducible repeat (first | refine blk_drewN ?_ _ | refine blk_drew ?_ | refine blk_alloc ?_ _)); exact BK335.out) hb)
            have n2_ := Aside0.mk (blk_below (g := gb342) (o := .cells #[.int .u32 t337, .int .u8 t338, .int .i64 t339, .int .i64 t340] 26 (0, 0)) (by (with_reducible repeat (first | refine blk_drewN ?_ _ | refine blk_drew ?_ | refine blk_alloc ?_ _)); exact BK342.out) hb)
            have n3_ := Aside0.mk (blk_below (g := gb348) (o := .cells #[.int .u32 t343, .int .u8 t344, .int .i64 t345, .int .i64 t346] 26 (0, 0)) (by (with_reducible repeat (first | refine blk_drewN ?_ _ | refine blk_drew ?_ | refine blk_alloc ?_ _)); exact BK348.out) hb)
            have n4_ := Aside0.mk (below_step (by repeat (first | (with_reducible first | exact HB.out | apply below_alloc | apply pw_below_drewN | apply below_drew1 | refine below_set ?_ GE334.out | refine below_set ?_ GE335.out | refine below_set ?_ GE342.out | refine below_set ?_ GE348.out) | exact HB.out)) hb)
            clear BK334
            clear BK335
            clear BK342
            clear BK348
            clear HB
            have BK334 := n0_
            have BK335 := n1_
            have BK342 := n2_
            have BK348 := n3_
            have HB := n4_
            clear n0_ n1_ n2_ n3_ n4_
            (try clear hb)
            (try clear hb2)
            (try clear hk)
            (try clear hi)
            refine hK.out _ _ ⟨(blk_cell BK334.out 0).trans rfl, (blk_cell BK334.out 1).trans rfl, (blk_cell BK334.out 2).trans rfl, (blk_cell BK335.out 0).trans rfl, (blk_cell BK335.out 1).trans rfl, (blk_cell BK335.out 2).trans rfl, (blk_cell BK335.out 3).trans rfl, (blk_cell BK342.out 0).trans rfl, (blk_cell BK342.out 1).trans rfl, (blk_cell BK342.out 2).trans rfl, (blk_cell BK342.out 3).trans rfl, (blk_cell BK348.out 0).trans rfl, (blk_cell BK348.out 1).trans rfl, (blk_cell BK348.out 2).trans rfl, (blk_cell BK348.out 3).trans rfl⟩ (fun hHeld => ?_)
            clear hK K
            refine norm_ (a' := ?_) ?_ ?_
            rotate_left
            · show Act.put _ (some 56) _ = _
              simp only [Act.put, List.setIfInBounds_toArray, List.set_cons_zero, List.set_cons_succ, i64_w, i32_w]
              rfl
            refine pure_ (i := 28) (N := some 57) (v := ?_) (a' := ?_) #[true, true, true, true, true, true, true, true, true, true, true, true, true, true, true, true, true, true, true, true, true, true, true, true, true, true, true, true, true, false] rfl rfl (any_of HT_.out (by kernel_rfl)) (fun _ _ _ h => h) (Or.inl ⟨by rfl, ?_⟩) ?_ ?_
            rotate_left
            · intro w'
              go_simp
              with_reducible rfl
            rotate_left
            · simp only [Act.put, List.setIfInBounds_toArray, List.set_cons_zero, List.set_cons_succ, i64_w, i32_w]
              rfl
            refine pure_ (i := 29) (N := some 8) (v := ?_) (a' := ?_) #[true, true, true, true, true, true, true, true, true, true, true, true, true, true, true, true, true, true, true, true, true, true, true, true, true, true, true, true, true, true] rfl rfl (any_of HT_.out (by kernel_rfl)) (fun _ _ _ h => h) (Or.inl ⟨by rfl, ?_⟩) ?_ ?_
            rotate_left
            · intro w'
              go_simp
              with_reducible rfl
            rotate_left
            · simp only [Act.put, List.setIfInBounds_toArray, List.set_cons_zero, List.set_cons_succ, i64_w, i32_w]
              rfl
            refine done_ (done_of HT_.out (by kernel_rfl)) ?_
            try go_wp2
            go_ret
            exact ⟨by first | rfl | (simp [errW_none, errW_some] <;> rfl) | (simp [*, errW_none, errW_some] <;> rfl), by repeat (first | (with_reducible first | exact HB.out | apply below_alloc | apply pw_below_drewN | apply below_drew1 | refine below_set ?_ GE334.out | refine below_set ?_ GE335.out | refine below_set ?_ GE342.out | refine below_set ?_ GE348.out) | exact HB.out)⟩
          · rw [if_neg c19] at H
            have c19b0 : (t351.toList == t352.toList) = false := beq_eq_false_iff_ne.mpr c19
            have c19b1 : (t351.toList != t352.toList) = true := bne_iff_ne.mpr c19
            exact absurd H (by simp)
        · rw [if_neg c16] at H
          have c16b0 : (t341 == t347) = false := beq_eq_false_iff_ne.mpr c16
          have c16b1 : (t341 != t347) = true := bne_iff_ne.mpr c16
          exact absurd H (by simp)
      · rw [if_neg c15] at H
        have c15b0 : (t337 == t343 && (t338 == t344 && (t339 == t345 && (t340 == t346)))) = false := by simpa using c15
        (try (have c15b1 : decide (t337 = t343 && (t338 == t344 && (t339 == t345 && (t340 == t346)))) = false := by simpa using c15))
        (try (have c15b2 : (t337 == t343 && (t338 == t344 && (t339 == t345 && (t340 == t346)))) = false := by simpa using c15))
        (try (have c15b3 : ¬ (t337 = t343 && (t338 == t344 && (t339 == t345 && (t340 == t346)))) := by simpa using c15))
        clear c15
        exact absurd H (by simp)
    · rw [if_neg c14] at H
      have c14b0 : (t349.toList == t350.toList) = false := beq_eq_false_iff_ne.mpr c14
      have c14b1 : (t349.toList != t350.toList) = true := bne_iff_ne.mpr c14
      exact absurd H (by simp)
end Go.Proofs.YtnagecfpbkffpaaDoor.P
end
section
namespace Go.Proofs.YtnagecfpbkffpaaDoor.P
open Go.RowKit Go.Proofs.YtnagecfpbkffpaaDoorW.PrintWords
theorem heads_eq : horariumlaw10_heads.f 60 = some true := by decide +kernel
theorem heads_ev : Ev (fun k => (horariumlaw10_heads.f k).bind fun t => some t) true := Ev.call (Ev.of horariumlaw10_heads.mono heads_eq) (Ev.now _)
theorem u8_wf {a : Int} (h : (Lit.int .u8 a).wf = true) : 0 ≤ a ∧ a ≤ 255 := by
  have h2 : IntKind.u8.min ≤ a ∧ a ≤ IntKind.u8.max := by simpa [Lit.wf] using h
  rw [show IntKind.u8.min = 0 by decide, show IntKind.u8.max = 255 by decide] at h2
  exact h2
theorem i64_wf {a : Int} (h : (Lit.int .i64 a).wf = true) : -9223372036854775808 ≤ a ∧ a ≤ 9223372036854775807 := by
  have h2 : IntKind.i64.min ≤ a ∧ a ≤ IntKind.i64.max := by simpa [Lit.wf] using h
  rw [show IntKind.i64.min = -9223372036854775808 by decide, show IntKind.i64.max = 9223372036854775807 by decide] at h2
  exact h2
theorem u32_wf {a : Int} (h : (Lit.int .u32 a).wf = true) : 0 ≤ a ∧ a ≤ 4294967295 := by
  have h2 : IntKind.u32.min ≤ a ∧ a ≤ IntKind.u32.max := by simpa [Lit.wf] using h
  rw [show IntKind.u32.min = 0 by decide, show IntKind.u32.max = 4294967295 by decide] at h2
  exact h2
end Go.Proofs.YtnagecfpbkffpaaDoor.P
end
section
namespace Go.Proofs.YtnagecfpbkffpaaDoor.Q
def piecesA (c : Int) : List Int → List Int → List (List Int)
  | pre, [] => [pre]
  | pre, b :: r => if b = c then pre :: piecesA c [] r else piecesA c (pre ++ [b]) r
theorem piecesA_free (c : Int) (p : List Int) (h : c ∉ p) : ∀ pre, piecesA c pre p = [pre ++ p] := by
  induction p with
  | nil => intro pre; simp [piecesA]
  | cons b r ih =>
    intro pre
    have hb : b ≠ c := fun he => h (by simp [he])
    rw [piecesA, if_neg hb, ih (fun hr => h (by simp [hr]))]
    simp
theorem piecesA_cut (c : Int) (p r : List Int) (h : c ∉ p) : ∀ pre, piecesA c pre (p ++ c :: r) = (pre ++ p) :: piecesA c [] r := by
  induction p with
  | nil => intro pre; rw [List.nil_append, piecesA, if_pos rfl]; simp
  | cons b p ih =>
    intro pre
    have hb : b ≠ c := fun he => h (by simp [he])
    rw [List.cons_append, piecesA, if_neg hb, ih (fun hr => h (by simp [hr]))]
    simp
theorem piecesA_length (c : Int) (l : List Int) : ∀ pre, (piecesA c pre l).length ≤ l.length + 1 := by
  induction l with
  | nil => intro pre; simp [piecesA]
  | cons b r ih =>
    intro pre
    unfold piecesA
    split
    · have := ih []; simp only [List.length_cons]; omega
    · have := ih (pre ++ [b]); simp only [List.length_cons]; omega
theorem piecesA_size (c : Int) (l : List Int) : ∀ pre, ∀ p ∈ piecesA c pre l, p.length ≤ pre.length + l.length := by
  induction l with
  | nil => intro pre p hp; simp [piecesA] at hp; subst hp; simp
  | cons b r ih =>
    intro pre p hp
    unfold piecesA at hp
    split at hp
    · rcases List.mem_cons.1 hp with rfl | hp
      · simp
      · have := ih [] p hp; simp at this ⊢; omega
    · have := ih (pre ++ [b]) p hp; simp at this ⊢; omega
theorem piecesA_Bs (c : Int) (l : List Int) (hl : Bs l) : ∀ pre, Bs pre → ∀ p ∈ piecesA c pre l, Bs p := by
  induction l with
  | nil => intro pre hp p h; simp [piecesA] at h; subst h; exact hp
  | cons b r ih =>
    intro pre hpre p hp
    unfold piecesA at hp
    split at hp
    · rcases List.mem_cons.1 hp with rfl | hp
      · exact hpre
      · exact ih hl.cons.2 [] (fun _ h => by cases h) p hp
    · exact ih hl.cons.2 _ (hpre.append (Bs.mk hl.cons.1 (fun _ h => by cases h))) p hp
theorem pieces_index (c : UInt8) (l : List UInt8) : ∀ pre : List Int,
    (Lib.indexByte l c = -1 ∧ piecesA (c.toNat : Int) pre (nums l) = [pre ++ nums l]) ∨
    ∃ j : Nat, Lib.indexByte l c = j ∧ j < l.length ∧ piecesA (c.toNat : Int) pre (nums l) = (pre ++ nums (l.take j)) :: piecesA (c.toNat : Int) [] (nums (l.drop (j + 1))) := by
  induction l with
  | nil => intro pre; exact .inl ⟨rfl, by simp [nums, piecesA]⟩
  | cons b l ih =>
    intro pre
    by_cases hb : b = c
    · subst hb
      refine .inr ⟨0, by simp [Lib.indexByte], by simp, ?_⟩
      show piecesA _ pre ((b.toNat : Int) :: nums l) = _
      rw [piecesA, if_pos rfl]
      simp [nums]
    · have hbc : ((b.toNat : Nat) : Int) ≠ (c.toNat : Int) := by
        intro h
        exact hb (UInt8.toNat_inj.1 (by omega))
      have hstep : piecesA (c.toNat : Int) pre (nums (b :: l)) = piecesA (c.toNat : Int) (pre ++ [(b.toNat : Int)]) (nums l) := by
        show piecesA _ pre ((b.toNat : Int) :: nums l) = _
        rw [piecesA, if_neg hbc]
      rcases ih (pre ++ [(b.toNat : Int)]) with ⟨h1, h2⟩ | ⟨j, h1, h2, h3⟩
      · refine .inl ⟨by simp [Lib.indexByte, hb, h1], ?_⟩
        rw [hstep, h2]
        simp [nums]
      · refine .inr ⟨j + 1, ?_, by simp; omega, ?_⟩
        · have : ¬ ((j : Int) = -1) := by omega
          simp [Lib.indexByte, hb, h1, this]
        · rw [hstep, h3]
          simp [nums]
def joinN (c : Int) : List (List Int) → List Int
  | [] => []
  | [p] => p
  | p :: q :: ps => p ++ c :: joinN c (q :: ps)
theorem pieces_join (c : Int) : ∀ ps : List (List Int), ps ≠ [] → (∀ p ∈ ps, c ∉ p) → piecesA c [] (joinN c ps) = ps
  | [], h, _ => absurd rfl h
  | [p], _, h => by simpa [joinN] using piecesA_free c p (h p (by simp)) []
  | p :: q :: ps, _, h => by
    rw [joinN, piecesA_cut c p _ (h p (by simp)), pieces_join c (q :: ps) (by simp) (fun x hx => h x (by simp [hx]))]
    rfl
theorem joinN_length (c : Int) (m : Nat) : ∀ ps : List (List Int), (∀ p ∈ ps, p.length ≤ m) → (joinN c ps).length ≤ ps.length * (m + 1)
  | [], _ => by simp [joinN]
  | [p], h => by have := h p (by simp); simp only [joinN, List.length_cons, List.length_nil]; omega
  | p :: q :: ps, h => by
    have h1 := h p (by simp)
    have h2 := joinN_length c m (q :: ps) (fun x hx => h x (by simp [hx]))
    simp only [joinN, List.length_append, List.length_cons, Nat.succ_mul] at h2 ⊢
    omega
theorem joinN_snoc (c : Int) (p : List Int) : ∀ ps : List (List Int), ps ≠ [] → joinN c (ps ++ [p]) = joinN c ps ++ c :: p
  | [], h => absurd rfl h
  | [q], _ => rfl
  | q :: r :: ps, _ => by
    have h := joinN_snoc c p (r :: ps) (by simp)
    simp only [List.cons_append, joinN] at h ⊢
    rw [h]
    simp
end Go.Proofs.YtnagecfpbkffpaaDoor.Q
end
section
namespace Go.Proofs.YtnagecfpbkffpaaDoor.Q
set_option linter.unusedVariables false
set_option linter.unusedSimpArgs false
def dg : Nat → Nat → List Int
  | 0, _ => []
  | k + 1, n => if n < 10 then [48 + (n : Int)] else dg k (n / 10) ++ [48 + ((n % 10 : Nat) : Int)]
def dec (n : Nat) : List Int := dg 20 n
def digitI (c : Int) : Bool := decide (48 ≤ c ∧ c ≤ 57)
def valA : Nat → List Int → Nat
  | a, [] => a
  | a, c :: l => valA (10 * a + (c - 48).toNat) l
def shapedN (s : List Int) : Bool := s.all digitI && (decide (s.length = 1) || (decide (s.length > 1) && decide (s.getD 0 0 ≠ 48)))
def pwN (s : List Int) : Int × Int := if shapedN s then (if valA 0 s < 18446744073709551616 then ((valA 0 s : Nat), 0) else (0, 6)) else (0, 3)
theorem valA_add (l : List Int) : ∀ a, valA a l = a * 10 ^ l.length + valA 0 l := by
  induction l with
  | nil => intro a; simp [valA]
  | cons c l ih =>
    intro a
    rw [valA, ih, valA, ih (10 * 0 + (c - 48).toNat), List.length_cons, Nat.pow_succ]
    have : (10 * a + (c - 48).toNat) * 10 ^ l.length = a * (10 ^ l.length * 10) + (c - 48).toNat * 10 ^ l.length := by
      rw [Nat.add_mul, Nat.mul_comm (10 ^ l.length) 10, ← Nat.mul_assoc, Nat.mul_comm a 10]
    rw [this]
    simp only [Nat.mul_zero, Nat.zero_add]
    omega
theorem valA_lt (l : List Int) (h : l.all digitI = true) : valA 0 l < 10 ^ l.length := by
  induction l with
  | nil => simp [valA]
  | cons c l ih =>
    simp only [List.all_cons, Bool.and_eq_true, digitI, decide_eq_true_eq] at h
    have h2 := ih h.2
    rw [valA, valA_add, List.length_cons, Nat.pow_succ]
    have : (10 * 0 + (c - 48).toNat) ≤ 9 := by omega
    have := Nat.mul_le_mul_right (10 ^ l.length) this
    omega
theorem valA_ge (c : Int) (l : List Int) (h1 : 48 < c) (h2 : c ≤ 57) : 10 ^ l.length ≤ valA 0 (c :: l) := by
  rw [valA, valA_add]
  have : 1 ≤ (10 * 0 + (c - 48).toNat) := by omega
  have := Nat.mul_le_mul_right (10 ^ l.length) this
  omega
theorem valA_mono (l : List Int) (a : Nat) : a ≤ valA a l := by
  rw [valA_add]
  have : 1 ≤ 10 ^ l.length := Nat.one_le_pow _ _ (by decide)
  have := Nat.mul_le_mul_left a this
  omega
theorem valA_append (l m : List Int) : ∀ a, valA a (l ++ m) = valA (valA a l) m := by
  induction l with
  | nil => intro a; rfl
  | cons c l ih => intro a; exact ih _
theorem dg_step (m k : Nat) (h : ¬ m < 10) : dg (k + 1) m = dg k (m / 10) ++ [48 + ((m % 10 : Nat) : Int)] := by rw [dg, if_neg h]
theorem dg_val (k : Nat) : ∀ n, n < 10 ^ k → valA 0 (dg k n) = n := by
  induction k with
  | zero => intro n h; simp at h; subst h; rfl
  | succ k ih =>
    intro n h
    by_cases hn : n < 10
    · rw [dg, if_pos hn]
      simp only [valA]
      omega
    · rw [dg_step n k hn, valA_append, ih (n / 10) (by rw [Nat.pow_succ] at h; omega)]
      simp only [valA]
      omega
theorem dg_digits (k : Nat) : ∀ n, (dg k n).all digitI = true := by
  induction k with
  | zero => intro n; rfl
  | succ k ih =>
    intro n
    rw [dg]
    split
    · simp only [List.all_cons, List.all_nil, Bool.and_true, digitI, decide_eq_true_eq]; omega
    · rw [List.all_append, ih]
      simp only [List.all_cons, List.all_nil, Bool.and_true, Bool.true_and, digitI, decide_eq_true_eq]; omega
theorem dg_length (k : Nat) : ∀ n, (dg k n).length ≤ k := by
  induction k with
  | zero => intro n; exact Nat.le_refl _
  | succ k ih =>
    intro n
    rw [dg]
    split
    · simp
    · have := ih (n / 10)
      simp only [List.length_append, List.length_cons, List.length_nil]
      omega
theorem dg_pos (k n : Nat) : 0 < (dg (k + 1) n).length := by
  rw [dg]
  split <;> simp
theorem dg_of (k : Nat) : ∀ (l : List Int), l.length ≤ k → l.all digitI = true → (l.length = 1 ∨ l.length > 1 ∧ l.getD 0 0 ≠ 48) → dg k (valA 0 l) = l := by
  induction k with
  | zero => intro l h1 h2 h3; omega
  | succ k ih =>
    intro l h1 h2 h3
    rcases h3 with h3 | ⟨h3, h4⟩
    · obtain ⟨c, rfl⟩ := List.length_eq_one_iff.1 h3
      simp only [List.all_cons, List.all_nil, Bool.and_true, digitI, decide_eq_true_eq] at h2
      have e : (48 : Int) + ((valA 0 [c] : Nat) : Int) = c := by simp only [valA]; omega
      rw [dg, if_pos (by simp only [valA]; omega), e]
    · obtain ⟨m, c, rfl⟩ : ∃ m c, l = m ++ [c] := ⟨l.dropLast, l.getLast (by intro e; subst e; simp at h3), (List.dropLast_concat_getLast _).symm⟩
      simp only [List.length_append, List.length_cons, List.length_nil] at h1 h3
      rw [List.all_append, Bool.and_eq_true] at h2
      obtain ⟨h5, h6⟩ := h2
      simp only [List.all_cons, List.all_nil, Bool.and_true, digitI, decide_eq_true_eq] at h6
      cases m with
      | nil => simp at h3
      | cons x m =>
        simp only [List.cons_append, List.getD_cons_zero] at h4
        have h7 := h5
        simp only [List.all_cons, Bool.and_eq_true, digitI, decide_eq_true_eq] at h7
        have hge := valA_ge x m (by omega) h7.1.2
        have hp1 : 1 ≤ 10 ^ m.length := Nat.one_le_pow _ _ (by decide)
        rw [valA_append]
        simp only [valA]
        have hge2 : 1 ≤ valA (10 * 0 + (x - 48).toNat) m := by
          have : valA 0 (x :: m) = valA (10 * 0 + (x - 48).toNat) m := rfl
          omega
        rw [dg_step _ k (by omega)]
        have e1 : (10 * valA (10 * 0 + (x - 48).toNat) m + (c - 48).toNat) / 10 = valA 0 (x :: m) := by
          show _ = valA (10 * 0 + (x - 48).toNat) m
          omega
        have e2 : 48 + (((10 * valA (10 * 0 + (x - 48).toNat) m + (c - 48).toNat) % 10 : Nat) : Int) = c := by omega
        rw [e1, e2, ih (x :: m) (by simp only [List.length_cons] at h1 ⊢; omega) h5 (by
          rcases Nat.lt_or_ge (x :: m).length 2 with h | h
          · left; simp only [List.length_cons] at h ⊢; omega
          · right; exact ⟨by omega, h4⟩)]
theorem shaped_of (l : List Int) (h : shapedN l = true) : l.all digitI = true ∧ (l.length = 1 ∨ l.length > 1 ∧ l.getD 0 0 ≠ 48) := by
  unfold shapedN at h
  simp only [Bool.and_eq_true, Bool.or_eq_true, decide_eq_true_eq] at h
  exact h
theorem shaped_long (l : List Int) (h : shapedN l = true) (h2 : 20 < l.length) : 18446744073709551616 ≤ valA 0 l := by
  obtain ⟨h3, h4⟩ := shaped_of l h
  rcases h4 with h4 | ⟨_, h4⟩
  · omega
  · cases l with
    | nil => simp at h2
    | cons c l =>
      simp only [List.all_cons, Bool.and_eq_true, digitI, decide_eq_true_eq] at h3
      have h5 := valA_ge c l (by simp only [List.getD_cons_zero] at h4; omega) h3.1.2
      have h6 : 10 ^ 20 ≤ 10 ^ l.length := Nat.pow_le_pow_right (by decide) (by simp only [List.length_cons] at h2; omega)
      omega
theorem pw_of (l : List Int) (n : Int) (h : pwN l = (n, 0)) : 0 ≤ n ∧ n < 18446744073709551616 ∧ l = dec n.toNat := by
  unfold pwN at h
  by_cases hs : shapedN l = true
  · rw [if_pos hs] at h
    by_cases hv : valA 0 l < 18446744073709551616
    · rw [if_pos hv] at h
      have hn : n = (valA 0 l : Nat) := by simpa using h.symm
      have hl : l.length ≤ 20 := by
        rcases Nat.lt_or_ge 20 l.length with h2 | h2
        · have := shaped_long l hs h2; omega
        · exact h2
      obtain ⟨h3, h4⟩ := shaped_of l hs
      refine ⟨by omega, by omega, ?_⟩
      rw [hn, Int.toNat_natCast]
      exact (dg_of 20 l hl h3 h4).symm
    · rw [if_neg hv] at h
      simp at h
  · rw [if_neg hs] at h
    simp at h
theorem pw_code (l : List Int) : (pwN l).2 = 0 ∨ pwN l = (0, 3) ∨ pwN l = (0, 6) := by
  unfold pwN
  split
  · split
    · exact .inl rfl
    · exact .inr (.inr rfl)
  · exact .inr (.inl rfl)
theorem dec_digit (n : Nat) (c : Int) (h : c ∈ dec n) : 48 ≤ c ∧ c ≤ 57 := by
  have h := List.all_eq_true.1 (dg_digits 20 n) c h
  simpa only [digitI, decide_eq_true_eq] using h
theorem dec_pos (n : Nat) : dec n ≠ [] := by
  have := dg_pos 19 n
  intro h
  unfold dec at h
  rw [h] at this
  simp at this
theorem dec_length (n : Nat) : (dec n).length ≤ 20 := dg_length 20 n
end Go.Proofs.YtnagecfpbkffpaaDoor.Q
end
section
namespace Go.Proofs.YtnagecfpbkffpaaDoor.P
open Go.RowKit Go.Proofs.YtnagecfpbkffpaaDoorW.PrintWords
set_option linter.unusedVariables false
set_option linter.unusedSimpArgs false
theorem nums_bytes (s : ByteArray) : Q.nums s.data.toList = bytesOf s := rfl
theorem mk_str (l : List UInt8) : strOfNums (Q.nums l) = ⟨l.toArray⟩ := by
  unfold strOfNums Q.nums
  rw [List.map_map]
  have : ((fun n : Int => UInt8.ofNat n.toNat) ∘ fun b : UInt8 => (b.toNat : Int)) = id := by
    funext b
    simp
  rw [this, List.map_id]
theorem extract_str (s : ByteArray) (i j : Nat) : s.extract i j = strOfNums (((bytesOf s).take j).drop i) := by
  have : ((bytesOf s).take j).drop i = Q.nums ((s.data.toList.take j).drop i) := by
    unfold bytesOf Q.nums
    rw [List.map_drop, List.map_take]
  rw [this, mk_str]
  apply ByteArray.ext
  rw [ByteArray.data_extract]
  apply Array.ext'
  rw [Array.toList_extract, List.extract_eq_take_drop, List.drop_take]
theorem str_append (a b : List Int) : strOfNums a ++ strOfNums b = strOfNums (a ++ b) := by
  apply ByteArray.ext
  rw [ByteArray.data_append]
  apply Array.ext'
  simp [strOfNums]
end Go.Proofs.YtnagecfpbkffpaaDoor.P
end
section
namespace Go.Proofs.YtnagecfpbkffpaaDoor.P
open Go.RowKit Go.Proofs.YtnagecfpbkffpaaDoorW.PrintWords
set_option linter.unusedVariables false
set_option linter.unusedSimpArgs false
def decB (n : Nat) : ByteArray := strOfNums (Q.dec n)
theorem digs_eq (k : Nat) : ∀ n, digs k n = Q.dg k n := by
  induction k with
  | zero => intro n; rfl
  | succ k ih => intro n; rw [digs, Q.dg, ih]
theorem u64_in2 {x : Int} (h0 : 0 ≤ x) (h1 : x ≤ 18446744073709551615) : IntKind.u64.wrap x = x := IntWalk.u64_in _ ⟨h0, h1⟩
theorem print_eq (a : Int) (h0 : 0 ≤ a) (h1 : a ≤ 9223372036854775807) : digits_Print.f a = some (decB a.toNat) := by
  unfold digits_Print.f digits_Word.f
  rw [if_neg (by omega), u64_in2 h0 (by omega), if_pos ⟨h0, by omega⟩, digs_eq]
  rfl
theorem refdigit_eq (x : Int) (h0 : 0 ≤ x) (h1 : x ≤ 18446744073709551615) : horariumref01_digit.f x = some (strOfNums [48 + ((x.toNat % 10 : Nat) : Int)]) := by
  unfold horariumref01_digit.f
  have e : Int.tmod x 10 = ((x.toNat % 10 : Nat) : Int) := by
    rw [Int.tmod_eq_emod_of_nonneg h0]
    omega
  rw [e, u64_in2 (by omega) (by omega), Int.emod_eq_of_lt (by omega) (by omega)]
theorem refword_loop (k : Nat) : ∀ (x : Nat) (l : List Int), x < 10 ^ k → 0 < k → x ≤ 18446744073709551615 → l.length + k ≤ 100 →
    Ev (fun n => horariumref01_Word.l0 n (x : Int) (strOfNums ([48 + ((x % 10 : Nat) : Int)] ++ l))) (strOfNums (Q.dg k x ++ l)) := by
  induction k with
  | zero => intro x l h h0; omega
  | succ k ih =>
    intro x l h h0 h1 hl
    refine Ev.step (fun n => horariumref01_Word.l0.eq_2 ..) ?_
    by_cases hx : x < 10
    · refine Ev.ifn (by omega) (Ev.eq (Ev.now _) ?_)
      rw [Q.dg, if_pos hx, show x % 10 = x by omega]
    · have e : Int.tdiv (x : Int) 10 = ((x / 10 : Nat) : Int) := rfl
      have e2 : IntKind.u64.wrap ((x / 10 : Nat) : Int) = ((x / 10 : Nat) : Int) := u64_in2 (by omega) (by omega)
      refine Ev.ifp (by omega) ?_
      rw [e, e2]
      refine Ev.call (Ev.const (refdigit_eq _ (by omega) (by omega))) ?_
      rw [Int.toNat_natCast]
      refine Ev.ifp (by rw [strOfNums_size, strOfNums_size]; simp only [List.length_append, List.length_cons, List.length_nil]; omega) ?_
      rw [str_append]
      have h3 := ih (x / 10) ([48 + ((x % 10 : Nat) : Int)] ++ l) (by rw [Nat.pow_succ] at h; omega) (by
        rcases Nat.eq_zero_or_pos k with h4 | h4
        · subst h4; simp at h; omega
        · exact h4) (by omega) (by simp only [List.length_append, List.length_cons, List.length_nil]; omega)
      refine Ev.eq h3 ?_
      rw [Q.dg_step x k hx, List.append_assoc]
theorem refword_ev (x : Int) (h0 : 0 ≤ x) (h1 : x ≤ 18446744073709551615) : Ev (fun k => horariumref01_Word.f k x) (decB x.toNat) := by
  unfold horariumref01_Word.f
  refine Ev.call (Ev.const (refdigit_eq x h0 h1)) ?_
  have h := refword_loop 20 x.toNat [] (by omega) (by decide) (by omega) (by simp)
  rw [List.append_nil, List.append_nil, show ((x.toNat : Nat) : Int) = x by omega] at h
  exact h
theorem refprint_ev (a : Int) (h0 : 0 ≤ a) (h1 : a ≤ 9223372036854775807) : Ev (fun k => horariumref01_Print.f k a) (decB a.toNat) := by
  unfold horariumref01_Print.f
  refine Ev.ifn (by omega) ?_
  refine Ev.call (Ev.const (show horariumref01_Size.f a = some a by unfold horariumref01_Size.f; rw [if_neg (by omega), u64_in2 h0 (by omega)])) ?_
  exact Ev.call (refword_ev a h0 (by omega)) (Ev.now _)
theorem decB_size (n : Nat) : (decB n).size ≤ 20 := by unfold decB; rw [strOfNums_size]; exact Q.dec_length n
end Go.Proofs.YtnagecfpbkffpaaDoor.P
end
