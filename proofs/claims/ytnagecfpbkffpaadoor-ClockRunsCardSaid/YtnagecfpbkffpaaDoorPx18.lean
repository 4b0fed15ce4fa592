import Derived.Test.YtnagecfpbkffpaaDoorPx0
import Derived.Test.YtnagecfpbkffpaaDoorPx1
import Derived.Test.YtnagecfpbkffpaaDoorPx3
import Derived.Test.YtnagecfpbkffpaaDoorPx4
import Derived.Test.YtnagecfpbkffpaaDoorPx8
import Derived.Test.YtnagecfpbkffpaaDoorPx9
import Derived.Test.YtnagecfpbkffpaaDoorPx10
import Derived.Test.YtnagecfpbkffpaaDoorPDays
namespace Go.Proofs.YtnagecfpbkffpaaDoor.P
open Go.RowKit Go.Proofs.YtnagecfpbkffpaaDoorW.PrintWords Go.Proofs.YtnagecfpbkffpaaDoorW.PrintLast Go.Proofs.YtnagecfpbkffpaaDoorW.PrintMore
attribute [local go_sem] max2_int min2_int max_two min_two max_three min_three max_four min_four   -- for this text's walks alone
set_option linter.unusedVariables false
set_option linter.unusedSimpArgs false
attribute [local go_sem high] eqA26
def horariumlaw10_ClockRuns.f (k : Nat) (a0 : Int) (a1 : Int) : Option (Bool) := (clock_Weeks.f k a0).bind fun t370 => ((clock_ParseWeeks.f k t370).bind fun bt371 => ((clock_Days.f a1).bind fun t373 => ((clock_ParseDays.f k t373).bind fun bt374 => (if (((a0 * 4096) % 4294967296) / 4096) = 0 then (if bt371.2 = 3 then (if ((a1 * 2) % 256) = 0 then (if bt374.2 = 3 then ((horariumlaw10_heads.f k).bind fun t376 => (some t376)) else (none)) else (if bt374.2 = 0 then (if bt374.1 = (((a1 * 2) % 256) / 2) then ((horariumlaw10_heads.f k).bind fun t377 => (some t377)) else (none)) else (none))) else (none)) else (if bt371.2 = 0 then (if bt371.1 = (((a0 * 4096) % 4294967296) / 4096) then (if ((a1 * 2) % 256) = 0 then (if bt374.2 = 3 then ((horariumlaw10_heads.f k).bind fun t378 => (some t378)) else (none)) else (if bt374.2 = 0 then (if bt374.1 = (((a1 * 2) % 256) / 2) then ((horariumlaw10_heads.f k).bind fun t379 => (some t379)) else (none)) else (none))) else (none)) else (none))))))
set_option maxHeartbeats 8000000 in
set_option maxRecDepth 100000 in
theorem horariumlaw10_ClockRuns.calls (k : Nat) (a0 : Int) (a1 : Int) (r : Bool) (w : World) (h : horariumlaw10_ClockRuns.f k a0 a1 = some r) :
    Calls Tryd.prog 7 #[.int .u32 a0, .int .u8 a1] w fun e w' => e = .returned (.bool r) ∧ Below w.heap.size w w' := by
  have HB := Aside0.mk (Below.refl w.heap.size w)
  have H : ((clock_Weeks.f k a0).bind fun t370 => ((clock_ParseWeeks.f k t370).bind fun bt371 => ((clock_Days.f a1).bind fun t373 => ((clock_ParseDays.f k t373).bind fun bt374 => (if (((a0 * 4096) % 4294967296) / 4096) = 0 then (if bt371.2 = 3 then (if ((a1 * 2) % 256) = 0 then (if bt374.2 = 3 then ((horariumlaw10_heads.f k).bind fun t376 => (some t376)) else (none)) else (if bt374.2 = 0 then (if bt374.1 = (((a1 * 2) % 256) / 2) then ((horariumlaw10_heads.f k).bind fun t377 => (some t377)) else (none)) else (none))) else (none)) else (if bt371.2 = 0 then (if bt371.1 = (((a0 * 4096) % 4294967296) / 4096) then (if ((a1 * 2) % 256) = 0 then (if bt374.2 = 3 then ((horariumlaw10_heads.f k).bind fun t378 => (some t378)) else (none)) else (if bt374.2 = 0 then (if bt374.1 = (((a1 * 2) % 256) / 2) then ((horariumlaw10_heads.f k).bind fun t379 => (some t379)) else (none)) else (none))) else (none)) else (none))))))) = some r := h
  clear h
  replace H := Option.bind_eq_some_iff.mp H
  obtain ⟨t370, A30, H⟩ := H
  replace H : ((clock_ParseWeeks.f k t370).bind fun bt371 => ((clock_Days.f a1).bind fun t373 => ((clock_ParseDays.f k t373).bind fun bt374 => (if (((a0 * 4096) % 4294967296) / 4096) = 0 then (if bt371.2 = 3 then (if ((a1 * 2) % 256) = 0 then (if bt374.2 = 3 then ((horariumlaw10_heads.f k).bind fun t376 => (some t376)) else (none)) else (if bt374.2 = 0 then (if bt374.1 = (((a1 * 2) % 256) / 2) then ((horariumlaw10_heads.f k).bind fun t377 => (some t377)) else (none)) else (none))) else (none)) else (if bt371.2 = 0 then (if bt371.1 = (((a0 * 4096) % 4294967296) / 4096) then (if ((a1 * 2) % 256) = 0 then (if bt374.2 = 3 then ((horariumlaw10_heads.f k).bind fun t378 => (some t378)) else (none)) else (if bt374.2 = 0 then (if bt374.1 = (((a1 * 2) % 256) / 2) then ((horariumlaw10_heads.f k).bind fun t379 => (some t379)) else (none)) else (none))) else (none)) else (none)))))) = some r := H
  have A3 := Aside0.mk A30
  clear A30
  replace H := Option.bind_eq_some_iff.mp H
  obtain ⟨⟨t371, t372⟩, A40, H⟩ := H
  replace H : ((clock_Days.f a1).bind fun t373 => ((clock_ParseDays.f k t373).bind fun bt374 => (if (((a0 * 4096) % 4294967296) / 4096) = 0 then (if t372 = 3 then (if ((a1 * 2) % 256) = 0 then (if bt374.2 = 3 then ((horariumlaw10_heads.f k).bind fun t376 => (some t376)) else (none)) else (if bt374.2 = 0 then (if bt374.1 = (((a1 * 2) % 256) / 2) then ((horariumlaw10_heads.f k).bind fun t377 => (some t377)) else (none)) else (none))) else (none)) else (if t372 = 0 then (if t371 = (((a0 * 4096) % 4294967296) / 4096) then (if ((a1 * 2) % 256) = 0 then (if bt374.2 = 3 then ((horariumlaw10_heads.f k).bind fun t378 => (some t378)) else (none)) else (if bt374.2 = 0 then (if bt374.1 = (((a1 * 2) % 256) / 2) then ((horariumlaw10_heads.f k).bind fun t379 => (some t379)) else (none)) else (none))) else (none)) else (none))))) = some r := H
  have A4 := Aside0.mk A40
  clear A40
  replace H := Option.bind_eq_some_iff.mp H
  obtain ⟨t373, A50, H⟩ := H
  replace H : ((clock_ParseDays.f k t373).bind fun bt374 => (if (((a0 * 4096) % 4294967296) / 4096) = 0 then (if t372 = 3 then (if ((a1 * 2) % 256) = 0 then (if bt374.2 = 3 then ((horariumlaw10_heads.f k).bind fun t376 => (some t376)) else (none)) else (if bt374.2 = 0 then (if bt374.1 = (((a1 * 2) % 256) / 2) then ((horariumlaw10_heads.f k).bind fun t377 => (some t377)) else (none)) else (none))) else (none)) else (if t372 = 0 then (if t371 = (((a0 * 4096) % 4294967296) / 4096) then (if ((a1 * 2) % 256) = 0 then (if bt374.2 = 3 then ((horariumlaw10_heads.f k).bind fun t378 => (some t378)) else (none)) else (if bt374.2 = 0 then (if bt374.1 = (((a1 * 2) % 256) / 2) then ((horariumlaw10_heads.f k).bind fun t379 => (some t379)) else (none)) else (none))) else (none)) else (none)))) = some r := H
  have A5 := Aside0.mk A50
  clear A50
  replace H := Option.bind_eq_some_iff.mp H
  obtain ⟨⟨t374, t375⟩, A60, H⟩ := H
  replace H : (if (((a0 * 4096) % 4294967296) / 4096) = 0 then (if t372 = 3 then (if ((a1 * 2) % 256) = 0 then (if t375 = 3 then ((horariumlaw10_heads.f k).bind fun t376 => (some t376)) else (none)) else (if t375 = 0 then (if t374 = (((a1 * 2) % 256) / 2) then ((horariumlaw10_heads.f k).bind fun t377 => (some t377)) else (none)) else (none))) else (none)) else (if t372 = 0 then (if t371 = (((a0 * 4096) % 4294967296) / 4096) then (if ((a1 * 2) % 256) = 0 then (if t375 = 3 then ((horariumlaw10_heads.f k).bind fun t378 => (some t378)) else (none)) else (if t375 = 0 then (if t374 = (((a1 * 2) % 256) / 2) then ((horariumlaw10_heads.f k).bind fun t379 => (some t379)) else (none)) else (none))) else (none)) else (none))) = some r := H
  have A6 := Aside0.mk A60
  clear A60
  by_cases c7 : (((a0 * 4096) % 4294967296) / 4096) = 0
  · rw [if_pos c7] at H
    have c7b0 : ((((a0 * 4096) % 4294967296) / 4096) == 0) = true := beq_iff_eq.mpr c7
    have c7b1 : ((((a0 * 4096) % 4294967296) / 4096) != 0) = false := bne_eq_false_iff_eq.mpr c7
    clear c7
    by_cases c8 : t372 = 3
    · rw [if_pos c8] at H
      have c8b0 : (t372 == 3) = true := beq_iff_eq.mpr c8
      have c8b1 : (t372 != 3) = false := bne_eq_false_iff_eq.mpr c8
      clear c8
      by_cases c9 : ((a1 * 2) % 256) = 0
      · rw [if_pos c9] at H
        have c9b0 : (((a1 * 2) % 256) == 0) = true := beq_iff_eq.mpr c9
        have c9b1 : (((a1 * 2) % 256) != 0) = false := bne_eq_false_iff_eq.mpr c9
        clear c9
        by_cases c10 : t375 = 3
        · rw [if_pos c10] at H
          have c10b0 : (t375 == 3) = true := beq_iff_eq.mpr c10
          have c10b1 : (t375 != 3) = false := bne_eq_false_iff_eq.mpr c10
          clear c10
          replace H := Option.bind_eq_some_iff.mp H
          obtain ⟨t376, A110, H⟩ := H
          replace H : (some t376) = some r := H
          have A11 := Aside0.mk A110
          clear A110
          obtain rfl := Option.some.inj H
          go_enter Tryd.func7, Tryd.ntmps7
          go_wp2_with (first | ((with_reducible refine gate_callee (f := 18) rfl ?_); refine goesL_ (some 12) rfl rfl Tryd.func18 (by kernel_rfl) rfl #[.int .u32 a0] rfl (by (try simp only [List.map_toArray, List.map_cons, List.map_nil]); first | done | rfl | (simp only [List.length_drop, List.length_take]; rfl)) ?_; (with_reducible refine (clock_Weeks.calls k a0 t370 _ A3.out).mono ?_); rintro e w12 ⟨rfl, hb⟩; refine ⟨_, rfl, ?_⟩; have n0_ := Aside0.mk (below_step (by repeat (first | (with_reducible first | exact HB.out | apply below_alloc | apply pw_below_drewN | apply below_drew1) | exact HB.out)) hb); clear HB; have HB := n0_; clear n0_; (try clear hb); (try clear hb2); (try clear hk); (try clear hi)) | ((with_reducible refine gate_callee (f := 16) rfl ?_); refine goesL_ (some 13) rfl rfl Tryd.func16 (by kernel_rfl) rfl #[.string t370] rfl (by (try simp only [List.map_toArray, List.map_cons, List.map_nil]); first | done | rfl | (simp only [List.length_drop, List.length_take]; rfl)) ?_; (with_reducible refine (clock_ParseWeeks.calls k t370 t371 t372 _ A4.out).mono ?_); rintro e w13 ⟨rfl, hb⟩; refine ⟨_, rfl, ?_⟩; have n0_ := Aside0.mk (below_step (by repeat (first | (with_reducible first | exact HB.out | apply below_alloc | apply pw_below_drewN | apply below_drew1) | exact HB.out)) hb); clear HB; have HB := n0_; clear n0_; (try clear hb); (try clear hb2); (try clear hk); (try clear hi)) | ((with_reducible refine gate_callee (f := 22) rfl ?_); refine goesL_ (some 18) rfl rfl Tryd.func22 (by kernel_rfl) rfl #[.int .u8 a1] rfl (by (try simp only [List.map_toArray, List.map_cons, List.map_nil]); first | done | rfl | (simp only [List.length_drop, List.length_take]; rfl)) ?_; (with_reducible refine (clock_Days.calls a1 t373 _ A5.out).mono ?_); rintro e w14 ⟨rfl, hb⟩; refine ⟨_, rfl, ?_⟩; have n0_ := Aside0.mk (below_step (by repeat (first | (with_reducible first | exact HB.out | apply below_alloc | apply pw_below_drewN | apply below_drew1) | exact HB.out)) hb); clear HB; have HB := n0_; clear n0_; (try clear hb); (try clear hb2); (try clear hk); (try clear hi)) | ((with_reducible refine gate_callee (f := 20) rfl ?_); refine goesL_ (some 19) rfl rfl Tryd.func20 (by kernel_rfl) rfl #[.string t373] rfl (by (try simp only [List.map_toArray, List.map_cons, List.map_nil]); first | done | rfl | (simp only [List.length_drop, List.length_take]; rfl)) ?_; (with_reducible refine (clock_ParseDays.calls k t373 t374 t375 _ A6.out).mono ?_); rintro e w' ⟨rfl, ⟨nd, rfl⟩⟩; refine ⟨_, rfl, ?_⟩) | (go_at_call 9; (with_reducible refine (horariumlaw10_heads.calls k  t376 _ A11.out).mono ?_); rintro e w15 ⟨rfl, hb⟩; have n0_ := Aside0.mk (below_step (by repeat (first | (with_reducible first | exact HB.out | apply below_alloc | apply pw_below_drewN | apply below_drew1) | exact HB.out)) hb); clear HB; have HB := n0_; clear n0_; (try clear hb); (try clear hb2); (try clear hk); (try clear hi)))
          go_ret
          exact ⟨by first | rfl | (simp [errW_none, errW_some] <;> rfl) | (simp [*, errW_none, errW_some] <;> rfl), by repeat (first | (with_reducible first | exact HB.out | apply below_alloc | apply pw_below_drewN | apply below_drew1) | exact HB.out)⟩
        · rw [if_neg c10] at H
          exact absurd H (by simp)
      · rw [if_neg c9] at H
        have c9b0 : (((a1 * 2) % 256) == 0) = false := beq_eq_false_iff_ne.mpr c9
        have c9b1 : (((a1 * 2) % 256) != 0) = true := bne_iff_ne.mpr c9
        by_cases c16 : t375 = 0
        · rw [if_pos c16] at H
          have c16b0 : (t375 == 0) = true := beq_iff_eq.mpr c16
          have c16b1 : (t375 != 0) = false := bne_eq_false_iff_eq.mpr c16
          clear c16
          by_cases c17 : t374 = (((a1 * 2) % 256) / 2)
          · rw [if_pos c17] at H
            have c17b0 : (t374 == (((a1 * 2) % 256) / 2)) = true := beq_iff_eq.mpr c17
            have c17b1 : (t374 != (((a1 * 2) % 256) / 2)) = false := bne_eq_false_iff_eq.mpr c17
            clear c17
            replace H := Option.bind_eq_some_iff.mp H
            obtain ⟨t377, A180, H⟩ := H
            replace H : (some t377) = some r := H
            have A18 := Aside0.mk A180
            clear A180
            obtain rfl := Option.some.inj H
            go_enter Tryd.func7, Tryd.ntmps7
            go_wp2_with (first | ((with_reducible refine gate_callee (f := 18) rfl ?_); refine goesL_ (some 12) rfl rfl Tryd.func18 (by kernel_rfl) rfl #[.int .u32 a0] rfl (by (try simp only [List.map_toArray, List.map_cons, List.map_nil]); first | done | rfl | (simp only [List.length_drop, List.length_take]; rfl)) ?_; (with_reducible refine (clock_Weeks.calls k a0 t370 _ A3.out).mono ?_); rintro e w19 ⟨rfl, hb⟩; refine ⟨_, rfl, ?_⟩; have n0_ := Aside0.mk (below_step (by repeat (first | (with_reducible first | exact HB.out | apply below_alloc | apply pw_below_drewN | apply below_drew1) | exact HB.out)) hb); clear HB; have HB := n0_; clear n0_; (try clear hb); (try clear hb2); (try clear hk); (try clear hi)) | ((with_reducible refine gate_callee (f := 16) rfl ?_); refine goesL_ (some 13) rfl rfl Tryd.func16 (by kernel_rfl) rfl #[.string t370] rfl (by (try simp only [List.map_toArray, List.map_cons, List.map_nil]); first | done | rfl | (simp only [List.length_drop, List.length_take]; rfl)) ?_; (with_reducible refine (clock_ParseWeeks.calls k t370 t371 t372 _ A4.out).mono ?_); rintro e w20 ⟨rfl, hb⟩; refine ⟨_, rfl, ?_⟩; have n0_ := Aside0.mk (below_step (by repeat (first | (with_reducible first | exact HB.out | apply below_alloc | apply pw_below_drewN | apply below_drew1) | exact HB.out)) hb); clear HB; have HB := n0_; clear n0_; (try clear hb); (try clear hb2); (try clear hk); (try clear hi)) | ((with_reducible refine gate_callee (f := 22) rfl ?_); refine goesL_ (some 18) rfl rfl Tryd.func22 (by kernel_rfl) rfl #[.int .u8 a1] rfl (by (try simp only [List.map_toArray, List.map_cons, List.map_nil]); first | done | rfl | (simp only [List.length_drop, List.length_take]; rfl)) ?_; (with_reducible refine (clock_Days.calls a1 t373 _ A5.out).mono ?_); rintro e w21 ⟨rfl, hb⟩; refine ⟨_, rfl, ?_⟩; have n0_ := Aside0.mk (below_step (by repeat (first | (with_reducible first | exact HB.out | apply below_alloc | apply pw_below_drewN | apply below_drew1) | exact HB.out)) hb); clear HB; have HB := n0_; clear n0_; (try clear hb); (try clear hb2); (try clear hk); (try clear hi)) | ((with_reducible refine gate_callee (f := 20) rfl ?_); refine goesL_ (some 19) rfl rfl Tryd.func20 (by kernel_rfl) rfl #[.string t373] rfl (by (try simp only [List.map_toArray, List.map_cons, List.map_nil]); first | done | rfl | (simp only [List.length_drop, List.length_take]; rfl)) ?_; (with_reducible refine (clock_ParseDays.calls k t373 t374 t375 _ A6.out).mono ?_); rintro e w' ⟨rfl, ⟨nd, rfl⟩⟩; refine ⟨_, rfl, ?_⟩) | (go_at_call 9; (with_reducible refine (horariumlaw10_heads.calls k  t377 _ A18.out).mono ?_); rintro e w22 ⟨rfl, hb⟩; have n0_ := Aside0.mk (below_step (by repeat (first | (with_reducible first | exact HB.out | apply below_alloc | apply pw_below_drewN | apply below_drew1) | exact HB.out)) hb); clear HB; have HB := n0_; clear n0_; (try clear hb); (try clear hb2); (try clear hk); (try clear hi)))
            go_ret
            exact ⟨by first | rfl | (simp [errW_none, errW_some] <;> rfl) | (simp [*, errW_none, errW_some] <;> rfl), by repeat (first | (with_reducible first | exact HB.out | apply below_alloc | apply pw_below_drewN | apply below_drew1) | exact HB.out)⟩
          · rw [if_neg c17] at H
            exact absurd H (by simp)
        · rw [if_neg c16] at H
          exact absurd H (by simp)
    · rw [if_neg c8] at H
      exact absurd H (by simp)
  · rw [if_neg c7] at H
    have c7b0 : ((((a0 * 4096) % 4294967296) / 4096) == 0) = false := beq_eq_false_iff_ne.mpr c7
    have c7b1 : ((((a0 * 4096) % 4294967296) / 4096) != 0) = true := bne_iff_ne.mpr c7
    by_cases c23 : t372 = 0
    · rw [if_pos c23] at H
      have c23b0 : (t372 == 0) = true := beq_iff_eq.mpr c23
      have c23b1 : (t372 != 0) = false := bne_eq_false_iff_eq.mpr c23
      clear c23
      by_cases c24 : t371 = (((a0 * 4096) % 4294967296) / 4096)
      · rw [if_pos c24] at H
        have c24b0 : (t371 == (((a0 * 4096) % 4294967296) / 4096)) = true := beq_iff_eq.mpr c24
        have c24b1 : (t371 != (((a0 * 4096) % 4294967296) / 4096)) = false := bne_eq_false_iff_eq.mpr c24
        clear c24
        by_cases c25 : ((a1 * 2) % 256) = 0
        · rw [if_pos c25] at H
          have c25b0 : (((a1 * 2) % 256) == 0) = true := beq_iff_eq.mpr c25
          have c25b1 : (((a1 * 2) % 256) != 0) = false := bne_eq_false_iff_eq.mpr c25
          clear c25
          by_cases c26 : t375 = 3
          · rw [if_pos c26] at H
            have c26b0 : (t375 == 3) = true := beq_iff_eq.mpr c26
            have c26b1 : (t375 != 3) = false := bne_eq_false_iff_eq.mpr c26
            clear c26
            replace H := Option.bind_eq_some_iff.mp H
            obtain ⟨t378, A270, H⟩ := H
            replace H : (some t378) = some r := H
            have A27 := Aside0.mk A270
            clear A270
            obtain rfl := Option.some.inj H
            go_enter Tryd.func7, Tryd.ntmps7
            go_wp2_with (first | ((with_reducible refine gate_callee (f := 18) rfl ?_); refine goesL_ (some 12) rfl rfl Tryd.func18 (by kernel_rfl) rfl #[.int .u32 a0] rfl (by (try simp only [List.map_toArray, List.map_cons, List.map_nil]); first | done | rfl | (simp only [List.length_drop, List.length_take]; rfl)) ?_; (with_reducible refine (clock_Weeks.calls k a0 t370 _ A3.out).mono ?_); rintro e w28 ⟨rfl, hb⟩; refine ⟨_, rfl, ?_⟩; have n0_ := Aside0.mk (below_step (by repeat (first | (with_reducible first | exact HB.out | apply below_alloc | apply pw_below_drewN | apply below_drew1) | exact HB.out)) hb); clear HB; have HB := n0_; clear n0_; (try clear hb); (try clear hb2); (try clear hk); (try clear hi)) | ((with_reducible refine gate_callee (f := 16) rfl ?_); refine goesL_ (some 13) rfl rfl Tryd.func16 (by kernel_rfl) rfl #[.string t370] rfl (by (try simp only [List.map_toArray, List.map_cons, List.map_nil]); first | done | rfl | (simp only [List.length_drop, List.length_take]; rfl)) ?_; (with_reducible refine (clock_ParseWeeks.calls k t370 t371 t372 _ A4.out).mono ?_); rintro e w29 ⟨rfl, hb⟩; refine ⟨_, rfl, ?_⟩; have n0_ := Aside0.mk (below_step (by repeat (first | (with_reducible first | exact HB.out | apply below_alloc | apply pw_below_drewN | apply below_drew1) | exact HB.out)) hb); clear HB; have HB := n0_; clear n0_; (try clear hb); (try clear hb2); (try clear hk); (try clear hi)) | ((with_reducible refine gate_callee (f := 22) rfl ?_); refine goesL_ (some 18) rfl rfl Tryd.func22 (by kernel_rfl) rfl #[.int .u8 a1] rfl (by (try simp only [List.map_toArray, List.map_cons, List.map_nil]); first | done | rfl | (simp only [List.length_drop, List.length_take]; rfl)) ?_; (with_reducible refine (clock_Days.calls a1 t373 _ A5.out).mono ?_); rintro e w30 ⟨rfl, hb⟩; refine ⟨_, rfl, ?_⟩; have n0_ := Aside0.mk (below_step (by repeat (first | (with_reducible first | exact HB.out | apply below_alloc | apply pw_below_drewN | apply below_drew1) | exact HB.out)) hb); clear HB; have HB := n0_; clear n0_; (try clear hb); (try clear hb2); (try clear hk); (try clear hi)) | ((with_reducible refine gate_callee (f := 20) rfl ?_); refine goesL_ (some 19) rfl rfl Tryd.func20 (by kernel_rfl) rfl #[.string t373] rfl (by (try simp only [List.map_toArray, List.map_cons, List.map_nil]); first | done | rfl | (simp only [List.length_drop, List.length_take]; rfl)) ?_; (with_reducible refine (clock_ParseDays.calls k t373 t374 t375 _ A6.out).mono ?_); rintro e w' ⟨rfl, ⟨nd, rfl⟩⟩; refine ⟨_, rfl, ?_⟩) | (go_at_call 9; (with_reducible refine (horariumlaw10_heads.calls k  t378 _ A27.out).mono ?_); rintro e w31 ⟨rfl, hb⟩; have n0_ := Aside0.mk (below_step (by repeat (first | (with_reducible first | exact HB.out | apply below_alloc | apply pw_below_drewN | apply below_drew1) | exact HB.out)) hb); clear HB; have HB := n0_; clear n0_; (try clear hb); (try clear hb2); (try clear hk); (try clear hi)))
            go_ret
            exact ⟨by first | rfl | (simp [errW_none, errW_some] <;> rfl) | (simp [*, errW_none, errW_some] <;> rfl), by repeat (first | (with_reducible first | exact HB.out | apply below_alloc | apply pw_below_drewN | apply below_drew1) | exact HB.out)⟩
          · rw [if_neg c26] at H
            exact absurd H (by simp)
        · rw [if_neg c25] at H
          have c25b0 : (((a1 * 2) % 256) == 0) = false := beq_eq_false_iff_ne.mpr c25
          have c25b1 : (((a1 * 2) % 256) != 0) = true := bne_iff_ne.mpr c25
          by_cases c32 : t375 = 0
          · rw [if_pos c32] at H
            have c32b0 : (t375 == 0) = true := beq_iff_eq.mpr c32
            have c32b1 : (t375 != 0) = false := bne_eq_false_iff_eq.mpr c32
            clear c32
            by_cases c33 : t374 = (((a1 * 2) % 256) / 2)
            · rw [if_pos c33] at H
              have c33b0 : (t374 == (((a1 * 2) % 256) / 2)) = true := beq_iff_eq.mpr c33
              have c33b1 : (t374 != (((a1 * 2) % 256) / 2)) = false := bne_eq_false_iff_eq.mpr c33
              clear c33
              replace H := Option.bind_eq_some_iff.mp H
              obtain ⟨t379, A340, H⟩ := H
              replace H : (some t379) = some r := H
              have A34 := Aside0.mk A340
              clear A340
              obtain rfl := Option.some.inj H
              go_enter Tryd.func7, Tryd.ntmps7
              go_wp2_with (first | ((with_reducible refine gate_callee (f := 18) rfl ?_); refine goesL_ (some 12) rfl rfl Tryd.func18 (by kernel_rfl) rfl #[.int .u32 a0] rfl (by (try simp only [List.map_toArray, List.map_cons, List.map_nil]); first | done | rfl | (simp only [List.length_drop, List.length_take]; rfl)) ?_; (with_reducible refine (clock_Weeks.calls k a0 t370 _ A3.out).mono ?_); rintro e w35 ⟨rfl, hb⟩; refine ⟨_, rfl, ?_⟩; have n0_ := Aside0.mk (below_step (by repeat (first | (with_reducible first | exact HB.out | apply below_alloc | apply pw_below_drewN | apply below_drew1) | exact HB.out)) hb); clear HB; have HB := n0_; clear n0_; (try clear hb); (try clear hb2); (try clear hk); (try clear hi)) | ((with_reducible refine gate_callee (f := 16) rfl ?_); refine goesL_ (some 13) rfl rfl Tryd.func16 (by kernel_rfl) rfl #[.string t370] rfl (by (try simp only [List.map_toArray, List.map_cons, List.map_nil]); first | done | rfl | (simp only [List.length_drop, List.length_take]; rfl)) ?_; (with_reducible refine (clock_ParseWeeks.calls k t370 t371 t372 _ A4.out).mono ?_); rintro e w36 ⟨rfl, hb⟩; refine ⟨_, rfl, ?_⟩; have n0_ := Aside0.mk (below_step (by repeat (first | (with_reducible first | exact HB.out | apply below_alloc | apply pw_below_drewN | apply below_drew1) | exact HB.out)) hb); clear HB; have HB := n0_; clear n0_; (try clear hb); (try clear hb2); (try clear hk); (try clear hi)) | ((with_reducible refine gate_callee (f := 22) rfl ?_); refine goesL_ (some 18) rfl rfl Tryd.func22 (by kernel_rfl) rfl #[.int .u8 a1] rfl (by (try simp only [List.map_toArray, List.map_cons, List.map_nil]); first | done | rfl | (simp only [List.length_drop, List.length_take]; rfl)) ?_; (with_reducible refine (clock_Days.calls a1 t373 _ A5.out).mono ?_); rintro e w37 ⟨rfl, hb⟩; refine ⟨_, rfl, ?_⟩; have n0_ := Aside0.mk (below_step (by repeat (first | (with_reducible first | exact HB.out | apply below_alloc | apply pw_below_drewN | apply below_drew1) | exact HB.out)) hb); clear HB; have HB := n0_; clear n0_; (try clear hb); (try clear hb2); (try clear hk); (try clear hi)) | ((with_reducible refine gate_callee (f := 20) rfl ?_); refine goesL_ (some 19) rfl rfl Tryd.func20 (by kernel_rfl) rfl #[.string t373] rfl (by (try simp only [List.map_toArray, List.map_cons, List.map_nil]); first | done | rfl | (simp only [List.length_drop, List.length_take]; rfl)) ?_; (with_reducible refine (clock_ParseDays.calls k t373 t374 t375 _ A6.out).mono ?_); rintro e w' ⟨rfl, ⟨nd, rfl⟩⟩; refine ⟨_, rfl, ?_⟩) | (go_at_call 9; (with_reducible refine (horariumlaw10_heads.calls k  t379 _ A34.out).mono ?_); rintro e w38 ⟨rfl, hb⟩; have n0_ := Aside0.mk (below_step (by repeat (first | (with_reducible first | exact HB.out | apply below_alloc | apply pw_below_drewN | apply below_drew1) | exact HB.out)) hb); clear HB; have HB := n0_; clear n0_; (try clear hb); (try clear hb2); (try clear hk); (try clear hi)))
              go_ret
              exact ⟨by first | rfl | (simp [errW_none, errW_some] <;> rfl) | (simp [*, errW_none, errW_some] <;> rfl), by repeat (first | (with_reducible first | exact HB.out | apply below_alloc | apply pw_below_drewN | apply below_drew1) | exact HB.out)⟩
            · rw [if_neg c33] at H
              exact absurd H (by simp)
          · rw [if_neg c32] at H
            exact absurd H (by simp)
      · rw [if_neg c24] at H
        exact absurd H (by simp)
    · rw [if_neg c23] at H
      exact absurd H (by simp)
end Go.Proofs.YtnagecfpbkffpaaDoor.P
