import Derived.Test.YtnagecfpbkffpaaDoorPDays
import Derived.Test.YtnagecfpbkffpaaDoorPx14
namespace Go.Proofs.YtnagecfpbkffpaaDoor.P
open Go.RowKit Go.Proofs.YtnagecfpbkffpaaDoorW.PrintWords Go.Proofs.YtnagecfpbkffpaaDoorW.PrintLast Go.Proofs.YtnagecfpbkffpaaDoorW.PrintMore
attribute [local go_sem] max2_int min2_int max_two min_two max_three min_three max_four min_four   -- for this text's walks alone
set_option linter.unusedVariables false
set_option linter.unusedSimpArgs false
def horariumref01_Size.f (a0 : Int) : Option (Int) := if a0 < 0 then (some (IntKind.u64.wrap ((IntKind.u64.wrap (wrap64 (-(wrap64 (a0 + 1))))) + 1))) else (some (IntKind.u64.wrap (a0)))
set_option maxHeartbeats 8000000 in
set_option maxRecDepth 100000 in
theorem horariumref01_Size.calls (a0 : Int) (r : Int) (w : World) (h : horariumref01_Size.f a0 = some r) :
    Calls Tryd.prog 49 #[.int .i64 a0] w fun e w' => e = .returned (.int .u64 r) ∧ Drawn0 w w' := by
  have H : (if a0 < 0 then (some (IntKind.u64.wrap ((IntKind.u64.wrap (wrap64 (-(wrap64 (a0 + 1))))) + 1))) else (some (IntKind.u64.wrap (a0)))) = some r := h
  clear h
  by_cases c2 : a0 < 0
  · rw [if_pos c2] at H
    have c2b0 : decide (a0 < 0) = true := decide_eq_true c2
    clear c2
    obtain rfl := Option.some.inj H
    go_enter Tryd.func49, Tryd.ntmps49
    go_wp2
    go_ret
    exact ⟨by first | rfl | (simp; done) | (simp [*]; done), by repeat (first | exact Drawn0.refl _ | apply Drawn0.step)⟩
  · rw [if_neg c2] at H
    have c2b0 : decide (a0 < 0) = false := decide_eq_false c2
    clear c2
    obtain rfl := Option.some.inj H
    go_enter Tryd.func49, Tryd.ntmps49
    go_wp2
    go_ret
    exact ⟨by first | rfl | (simp; done) | (simp [*]; done), by repeat (first | exact Drawn0.refl _ | apply Drawn0.step)⟩
def horariumref01_Print.f (k : Nat) (a0 : Int) : Option (ByteArray) := if a0 < 0 then ((horariumref01_Size.f a0).bind fun t310 => ((horariumref01_Word.f k t310).bind fun t311 => (if 1 + t311.size ≤ 9223372036854775807 then (some ((⟨#[45]⟩ : ByteArray) ++ t311)) else (none)))) else ((horariumref01_Size.f a0).bind fun t312 => ((horariumref01_Word.f k t312).bind fun t313 => (some t313)))
set_option maxHeartbeats 8000000 in
set_option maxRecDepth 100000 in
theorem horariumref01_Print.calls (k : Nat) (a0 : Int) (r : ByteArray) (w : World) (h : horariumref01_Print.f k a0 = some r) :
    Calls Tryd.prog 33 #[.int .i64 a0] w fun e w' => e = .returned (.string r) ∧ Below w.heap.size w w' := by
  have HB := Aside0.mk (Below.refl w.heap.size w)
  have H : (if a0 < 0 then ((horariumref01_Size.f a0).bind fun t310 => ((horariumref01_Word.f k t310).bind fun t311 => (if 1 + t311.size ≤ 9223372036854775807 then (some ((⟨#[45]⟩ : ByteArray) ++ t311)) else (none)))) else ((horariumref01_Size.f a0).bind fun t312 => ((horariumref01_Word.f k t312).bind fun t313 => (some t313)))) = some r := h
  clear h
  by_cases c2 : a0 < 0
  · rw [if_pos c2] at H
    have c2b0 : decide (a0 < 0) = true := decide_eq_true c2
    clear c2
    replace H := Option.bind_eq_some_iff.mp H
    obtain ⟨t310, A30, H⟩ := H
    replace H : ((horariumref01_Word.f k t310).bind fun t311 => (if 1 + t311.size ≤ 9223372036854775807 then (some ((⟨#[45]⟩ : ByteArray) ++ t311)) else (none))) = some r := H
    have A3 := Aside0.mk A30
    clear A30
    replace H := Option.bind_eq_some_iff.mp H
    obtain ⟨t311, A40, H⟩ := H
    replace H : (if 1 + t311.size ≤ 9223372036854775807 then (some ((⟨#[45]⟩ : ByteArray) ++ t311)) else (none)) = some r := H
    have A4 := Aside0.mk A40
    clear A40
    by_cases c5 : 1 + t311.size ≤ 9223372036854775807
    · rw [if_pos c5] at H
      have c5b0 := eq_true c5
      have c5b1 : decide (1 + t311.size ≤ 9223372036854775807) = true := decide_eq_true c5
      try have c5b2 : (9223372036854775807 < 1 + t311.size) = False := eq_false (Nat.not_lt.2 c5)
      obtain rfl := Option.some.inj H
      go_enter Tryd.func33, Tryd.ntmps33
      go_wp2_with (first | ((with_reducible refine gate_callee (f := 49) rfl ?_); refine goesL_ (some 6) rfl rfl Tryd.func49 (by kernel_rfl) rfl #[.int .i64 a0] rfl (by (try simp only [List.map_toArray, List.map_cons, List.map_nil]); first | done | rfl | (simp only [List.length_drop, List.length_take]; rfl)) ?_; (with_reducible refine (horariumref01_Size.calls a0 t310 _ A3.out).mono ?_); rintro e w' ⟨rfl, ⟨nd, rfl⟩⟩; refine ⟨_, rfl, ?_⟩) | ((with_reducible refine gate_callee (f := 48) rfl ?_); refine goesL_ (some 7) rfl rfl Tryd.func48 (by kernel_rfl) rfl #[.int .u64 t310] rfl (by (try simp only [List.map_toArray, List.map_cons, List.map_nil]); first | done | rfl | (simp only [List.length_drop, List.length_take]; rfl)) ?_; (with_reducible refine (horariumref01_Word.calls k t310 t311 _ A4.out).mono ?_); rintro e w6 ⟨rfl, hb⟩; refine ⟨_, rfl, ?_⟩; have n0_ := Aside0.mk (below_step (by repeat (first | (with_reducible first | exact HB.out | apply below_alloc | apply pw_below_drewN | apply below_drew1) | exact HB.out)) hb); clear HB; have HB := n0_; clear n0_; (try clear hb); (try clear hb2); (try clear hk); (try clear hi)))
      go_ret
      exact ⟨by first | rfl | (simp [errW_none, errW_some] <;> rfl) | (simp [*, errW_none, errW_some] <;> rfl), by repeat (first | (with_reducible first | exact HB.out | apply below_alloc | apply pw_below_drewN | apply below_drew1) | exact HB.out)⟩
    · rw [if_neg c5] at H
      exact absurd H (by simp)
  · rw [if_neg c2] at H
    have c2b0 : decide (a0 < 0) = false := decide_eq_false c2
    clear c2
    replace H := Option.bind_eq_some_iff.mp H
    obtain ⟨t312, A70, H⟩ := H
    replace H : ((horariumref01_Word.f k t312).bind fun t313 => (some t313)) = some r := H
    have A7 := Aside0.mk A70
    clear A70
    replace H := Option.bind_eq_some_iff.mp H
    obtain ⟨t313, A80, H⟩ := H
    replace H : (some t313) = some r := H
    have A8 := Aside0.mk A80
    clear A80
    obtain rfl := Option.some.inj H
    go_enter Tryd.func33, Tryd.ntmps33
    go_wp2_with (first | ((with_reducible refine gate_callee (f := 49) rfl ?_); refine goesL_ (some 10) rfl rfl Tryd.func49 (by kernel_rfl) rfl #[.int .i64 a0] rfl (by (try simp only [List.map_toArray, List.map_cons, List.map_nil]); first | done | rfl | (simp only [List.length_drop, List.length_take]; rfl)) ?_; (with_reducible refine (horariumref01_Size.calls a0 t312 _ A7.out).mono ?_); rintro e w' ⟨rfl, ⟨nd, rfl⟩⟩; refine ⟨_, rfl, ?_⟩) | ((with_reducible refine gate_callee (f := 48) rfl ?_); refine goesL_ (some 11) rfl rfl Tryd.func48 (by kernel_rfl) rfl #[.int .u64 t312] rfl (by (try simp only [List.map_toArray, List.map_cons, List.map_nil]); first | done | rfl | (simp only [List.length_drop, List.length_take]; rfl)) ?_; (with_reducible refine (horariumref01_Word.calls k t312 t313 _ A8.out).mono ?_); rintro e w9 ⟨rfl, hb⟩; refine ⟨_, rfl, ?_⟩; have n0_ := Aside0.mk (below_step (by repeat (first | (with_reducible first | exact HB.out | apply below_alloc | apply pw_below_drewN | apply below_drew1) | exact HB.out)) hb); clear HB; have HB := n0_; clear n0_; (try clear hb); (try clear hb2); (try clear hk); (try clear hi)))
    go_ret
    exact ⟨by first | rfl | (simp [errW_none, errW_some] <;> rfl) | (simp [*, errW_none, errW_some] <;> rfl), by repeat (first | (with_reducible first | exact HB.out | apply below_alloc | apply pw_below_drewN | apply below_drew1) | exact HB.out)⟩
mutual
def horariumref10_Weeks.l0 : Nat → Int → ByteArray → Int → Option (ByteArray)
  | 0, _, _, _ => none
  | k + 1, x0, x3, x4 => if x4 < 20 then (if 0 ≤ (IntKind.u64.wrap (x4)) then (if (Int.tmod (shr .u32 x0 (IntKind.u64.wrap (x4))) 2) = 0 then (horariumref10_Weeks.j1 k x0 x3 x4 true) else (if x4 > 0 then (if 0 ≤ (IntKind.u64.wrap (wrap64 (x4 - 1))) then (horariumref10_Weeks.j1 k x0 x3 x4 ((Int.tmod (shr .u32 x0 (IntKind.u64.wrap (wrap64 (x4 - 1)))) 2) == 1)) else (none)) else (horariumref10_Weeks.j1 k x0 x3 x4 false))) else (none)) else (some x3)
def horariumref10_Weeks.j1 : Nat → Int → ByteArray → Int → Bool → Option (ByteArray)
  | 0, _, _, _, _ => none
  | k + 1, x0, x3, x4, x28 => if x28 = true then (horariumref10_Weeks.l0 k x0 x3 (wrap64 (x4 + 1))) else (horariumref10_Weeks.l1 k x0 x3 x4 x4)
def horariumref10_Weeks.j3 : Nat → Int → ByteArray → Int → Int → Option (ByteArray)
  | 0, _, _, _, _ => none
  | k + 1, x0, x3, x4, x5 => if x3.toList = ([] : List UInt8) then (horariumref10_Weeks.j4 k x0 x3 x4 x5) else (if x3.size + 1 ≤ 9223372036854775807 then (horariumref10_Weeks.j4 k x0 (x3 ++ (⟨#[44]⟩ : ByteArray)) x4 x5) else (none))
def horariumref10_Weeks.j4 : Nat → Int → ByteArray → Int → Int → Option (ByteArray)
  | 0, _, _, _, _ => none
  | k + 1, x0, x3, x4, x5 => (horariumref01_Print.f k (wrap64 (x4 + 1))).bind fun t314 => (if x3.size + t314.size ≤ 9223372036854775807 then (if x5 > x4 then (if (x3 ++ t314).size + 1 ≤ 9223372036854775807 then ((horariumref01_Print.f k (wrap64 (x5 + 1))).bind fun t315 => (if ((x3 ++ t314) ++ (⟨#[45]⟩ : ByteArray)).size + t315.size ≤ 9223372036854775807 then (horariumref10_Weeks.l0 k x0 (((x3 ++ t314) ++ (⟨#[45]⟩ : ByteArray)) ++ t315) (wrap64 (x4 + 1))) else (none))) else (none)) else (horariumref10_Weeks.l0 k x0 (x3 ++ t314) (wrap64 (x4 + 1)))) else (none))
def horariumref10_Weeks.l1 : Nat → Int → ByteArray → Int → Int → Option (ByteArray)
  | 0, _, _, _, _ => none
  | k + 1, x0, x3, x4, x5 => if (wrap64 (x5 + 1)) < 20 then (if 0 ≤ (IntKind.u64.wrap (wrap64 (x5 + 1))) then (if (Int.tmod (shr .u32 x0 (IntKind.u64.wrap (wrap64 (x5 + 1)))) 2) = 1 then (horariumref10_Weeks.l1 k x0 x3 x4 (wrap64 (x5 + 1))) else (horariumref10_Weeks.j3 k x0 x3 x4 x5)) else (none)) else (horariumref10_Weeks.j3 k x0 x3 x4 x5)
end
def horariumref10_Weeks.f (k : Nat) (a0 : Int) : Option (ByteArray) := horariumref10_Weeks.l0 k a0 (⟨#[]⟩ : ByteArray) 0
set_option maxHeartbeats 8000000 in
set_option maxRecDepth 100000 in
theorem horariumref10_Weeks.calls (k : Nat) (a0 : Int) (r : ByteArray) (w : World) (h : horariumref10_Weeks.f k a0 = some r) :
    Calls Tryd.prog 19 #[.int .u32 a0] w fun e w' => e = .returned (.string r) ∧ Below w.heap.size w w' := by
  have HB := Aside0.mk (Below.refl w.heap.size w)
  have H : (horariumref10_Weeks.l0 k a0 (⟨#[]⟩ : ByteArray) 0) = some r := h
  clear h
  have H' := Aside0.mk H
  clear H
  go_enter Tryd.func19, Tryd.ntmps19
  go_wp2
  go_loopg [3, 4] k (fun kq v3 v4 w' => ∃ (x3_1 : ByteArray) (x4_1 : Int), v3 = .string x3_1 ∧ v4 = .int .i64 x4_1 ∧ Aside0 (horariumref10_Weeks.l0 kq a0 x3_1 x4_1 = some r) ∧ Aside0 (kq ≤ k) ∧ Aside0 (Below w.heap.size w w'))
  case atStart => exact ⟨((⟨#[]⟩ : ByteArray)), (0), (by first | rfl | (simp; done) | (simp [*]; done)), (by first | rfl | (simp; done) | (simp [*]; done)), H', ⟨Nat.le_refl _⟩, ⟨by repeat (first | (with_reducible first | exact HB.out | apply below_alloc | apply pw_below_drewN | apply below_drew1) | exact HB.out)⟩⟩
  case round =>
    clear H'
    try clear c1
    obtain ⟨x3_1, x4_1, rfl, rfl, HA, HK1, HB⟩ := hrel
    cases gk with
    | zero => exact absurd HA.out (by simp [horariumref10_Weeks.l0])
    | succ k1 =>
      have H := HA.out
      clear HA
      simp only [horariumref10_Weeks.l0] at H
      by_cases c2 : x4_1 < 20
      · rw [if_pos c2] at H
        have c2b0 : decide (x4_1 < 20) = true := decide_eq_true c2
        clear c2
        have HC3 := Aside0.mk H
        clear H
        go_upto_region 5 with (fail)
        go_cut [28] (fun v28 wc => ∃ (kq : Nat) (x28_2 : Bool), v28 = .bool x28_2 ∧ Aside0 (horariumref10_Weeks.j1 kq a0 x3_1 x4_1 x28_2 = some r) ∧ Aside0 (kq ≤ k1) ∧ Aside0 (Below w.heap.size w wc))
        case first =>
          have H := HC3.out
          clear HC3
          obtain ⟨ji4, hji4⟩ : ∃ j_ : Int, (IntKind.u64.wrap (x4_1)) = j_ := ⟨_, rfl⟩
          replace H : (if 0 ≤ (ji4) then (if (Int.tmod (shr .u32 a0 (ji4)) 2) = 0 then (horariumref10_Weeks.j1 k1 a0 x3_1 x4_1 true) else (if x4_1 > 0 then (if 0 ≤ (IntKind.u64.wrap (wrap64 (x4_1 - 1))) then (horariumref10_Weeks.j1 k1 a0 x3_1 x4_1 ((Int.tmod (shr .u32 a0 (IntKind.u64.wrap (wrap64 (x4_1 - 1)))) 2) == 1)) else (none)) else (horariumref10_Weeks.j1 k1 a0 x3_1 x4_1 false))) else (none)) = some r := by first | (rw [hji4] at H; exact H) | (simp only [hji4] at H ⊢; exact H)
          by_cases c5 : 0 ≤ (ji4)
          · rw [if_pos c5] at H
            have c5b0 := eq_true c5
            have c5b1 : decide (0 ≤ (ji4)) = true := decide_eq_true c5
            clear c5
            obtain ⟨ji6, hji6⟩ : ∃ j_ : Int, (shr .u32 a0 (ji4)) = j_ := ⟨_, rfl⟩
            replace H : (if (Int.tmod (ji6) 2) = 0 then (horariumref10_Weeks.j1 k1 a0 x3_1 x4_1 true) else (if x4_1 > 0 then (if 0 ≤ (IntKind.u64.wrap (wrap64 (x4_1 - 1))) then (horariumref10_Weeks.j1 k1 a0 x3_1 x4_1 ((Int.tmod (shr .u32 a0 (IntKind.u64.wrap (wrap64 (x4_1 - 1)))) 2) == 1)) else (none)) else (horariumref10_Weeks.j1 k1 a0 x3_1 x4_1 false))) = some r := by first | (rw [hji6] at H; exact H) | (simp only [hji6] at H ⊢; exact H)
            have hji6_ : (a0 / 2 ^ min (ji4).toNat 32) = ji6 := hji6
            have hji6z : (ji4) ≤ 32 → (a0 / 2 ^ (ji4).toNat) = ji6 := shr_small hji6
            by_cases c7 : (Int.tmod (ji6) 2) = 0
            · rw [if_pos c7] at H
              have c7b0 : ((Int.tmod (ji6) 2) == 0) = true := beq_iff_eq.mpr c7
              have c7b1 : ((Int.tmod (ji6) 2) != 0) = false := bne_eq_false_iff_eq.mpr c7
              clear c7
              (first | rw [c7b0] | (simp only [i64_w, i32_w]; rw [c7b0]) | skip)
              have H' := Aside0.mk H
              clear H
              go_wp2
              go_meet
              case rel => exact ⟨_, (true), (by first | rfl | (simp; done) | (simp [*]; done)), H', ⟨by have := HK1.out; first | omega | exact Nat.le_refl _⟩, ⟨by repeat (first | (with_reducible first | exact HB.out | apply below_alloc | apply pw_below_drewN | apply below_drew1) | exact HB.out)⟩⟩
            · rw [if_neg c7] at H
              have c7b0 : ((Int.tmod (ji6) 2) == 0) = false := beq_eq_false_iff_ne.mpr c7
              have c7b1 : ((Int.tmod (ji6) 2) != 0) = true := bne_iff_ne.mpr c7
              (first | rw [c7b0] | (simp only [i64_w, i32_w]; rw [c7b0]) | skip)
              by_cases c8 : x4_1 > 0
              · rw [if_pos c8] at H
                have c8b0 : decide (0 < x4_1) = true := decide_eq_true c8
                clear c8
                obtain ⟨ji9, hji9⟩ : ∃ j_ : Int, (IntKind.u64.wrap (wrap64 (x4_1 - 1))) = j_ := ⟨_, rfl⟩
                replace H : (if 0 ≤ (ji9) then (horariumref10_Weeks.j1 k1 a0 x3_1 x4_1 ((Int.tmod (shr .u32 a0 (ji9)) 2) == 1)) else (none)) = some r := by first | (rw [hji9] at H; exact H) | (simp only [hji9] at H ⊢; exact H)
                by_cases c10 : 0 ≤ (ji9)
                · rw [if_pos c10] at H
                  have c10b0 := eq_true c10
                  have c10b1 : decide (0 ≤ (ji9)) = true := decide_eq_true c10
                  clear c10
                  obtain ⟨ji11, hji11⟩ : ∃ j_ : Int, (shr .u32 a0 (ji9)) = j_ := ⟨_, rfl⟩
                  replace H : (horariumref10_Weeks.j1 k1 a0 x3_1 x4_1 ((Int.tmod (ji11) 2) == 1)) = some r := by first | (rw [hji11] at H; exact H) | (simp only [hji11] at H ⊢; exact H)
                  have hji11_ : (a0 / 2 ^ min (ji9).toNat 32) = ji11 := hji11
                  have hji11z : (ji9) ≤ 32 → (a0 / 2 ^ (ji9).toNat) = ji11 := shr_small hji11
                  have H' := Aside0.mk H
                  clear H
                  go_wp2
                  go_meet
                  case rel => exact ⟨_, (((Int.tmod (ji11) 2) == 1)), (by first | rfl | (simp; done) | (simp only [← hji11] <;> (first | rfl | simp)) | (simp [*]; done)), H', ⟨by have := HK1.out; first | omega | exact Nat.le_refl _⟩, ⟨by repeat (first | (with_reducible first | exact HB.out | apply below_alloc | apply pw_below_drewN | apply below_drew1) | exact HB.out)⟩⟩
                · rw [if_neg c10] at H
                  exact absurd H (by simp)
              · rw [if_neg c8] at H
                have c8b0 : decide (0 < x4_1) = false := decide_eq_false c8
                clear c8
                have H' := Aside0.mk H
                clear H
                go_wp2
                go_meet
                case rel => exact ⟨_, (false), (by first | rfl | (simp; done) | (simp [*]; done)), H', ⟨by have := HK1.out; first | omega | exact Nat.le_refl _⟩, ⟨by repeat (first | (with_reducible first | exact HB.out | apply below_alloc | apply pw_below_drewN | apply below_drew1) | exact HB.out)⟩⟩
          · rw [if_neg c5] at H
            exact absurd H (by simp)
        case rest =>
          clear HC3
          try clear c1
          try clear c2
          try clear c2b0
          try clear p2
          try clear c5
          try clear c5b0
          try clear c5b1
          try clear p6
          try clear c7
          try clear c7b0
          try clear c7b1
          try clear c8
          try clear c8b0
          try clear c10
          try clear c10b0
          try clear c10b1
          obtain ⟨kq, x28_2, rfl, HA, HJ2, HB⟩ := hcut
          cases kq with
          | zero => exact absurd HA.out (by simp [horariumref10_Weeks.j1])
          | succ kj2 =>
            have H := HA.out
            clear HA
            simp only [horariumref10_Weeks.j1] at H
            by_cases c12 : x28_2 = true
            · subst c12
              have H1 : (horariumref10_Weeks.l0 kj2 a0 x3_1 (wrap64 (x4_1 + 1))) = some r := by rw [if_pos rfl] at H; exact H
              clear H
              have H := H1
              clear H1
              have H' := Aside0.mk H
              clear H
              go_wp2
              go_roundg kj2
              case measure => have := HK1.out; have := HJ2.out; omega
              case rel => exact ⟨(x3_1), (wrap64 (x4_1 + 1)), (by first | rfl | (simp; done) | (simp [*]; done)), (by first | rfl | (simp; done) | (simp [*]; done)), H', ⟨by have := HK1.out; have := HJ2.out; omega⟩, ⟨by repeat (first | (with_reducible first | exact HB.out | apply below_alloc | apply pw_below_drewN | apply below_drew1) | exact HB.out)⟩⟩
            · replace c12 := Bool.eq_false_iff.mpr c12
              subst c12
              have H1 : (horariumref10_Weeks.l1 kj2 a0 x3_1 x4_1 x4_1) = some r := by rw [if_neg (show ¬ (false = true) by decide)] at H; exact H
              clear H
              have H := H1
              clear H1
              have HC13 := Aside0.mk H
              clear H
              go_upto_block 2 with (fail)
              go_cut [5] (fun v5 wc => ∃ (kq : Nat) (x5_12 : Int), v5 = .int .i64 x5_12 ∧ Aside0 (horariumref10_Weeks.j3 kq a0 x3_1 x4_1 x5_12 = some r) ∧ Aside0 (kq ≤ kj2) ∧ Aside0 (Below w.heap.size w wc))
              case first =>
                have H := HC13.out
                clear HC13
                have H' := Aside0.mk H
                clear H
                go_wp2
                go_loopg [5] kj2 (fun kq v5 w' => ∃ (x5_3 : Int), v5 = .int .i64 x5_3 ∧ Aside0 (horariumref10_Weeks.l1 kq a0 x3_1 x4_1 x5_3 = some r) ∧ Aside0 (kq ≤ kj2) ∧ Aside0 (Below w.heap.size w w'))
                case atStart => exact ⟨(x4_1), (by first | rfl | (simp; done) | (simp [*]; done)), H', ⟨Nat.le_refl _⟩, ⟨by repeat (first | (with_reducible first | exact HB.out | apply below_alloc | apply pw_below_drewN | apply below_drew1) | exact HB.out)⟩⟩
                case round =>
                  clear H'
                  try clear c1
                  try clear c2
                  try clear c2b0
                  try clear p2
                  try clear c5
                  try clear c5b0
                  try clear c5b1
                  try clear p6
                  try clear c7
                  try clear c7b0
                  try clear c7b1
                  try clear c8
                  try clear c8b0
                  try clear c10
                  try clear c10b0
                  try clear c10b1
                  try clear c12
                  try clear p2
                  try clear p6
                  obtain ⟨x5_3, rfl, HA, HK3, HB⟩ := hrel
                  cases gk with
                  | zero => exact absurd HA.out (by simp [horariumref10_Weeks.l1])
                  | succ k3 =>
                    have H := HA.out
                    clear HA
                    simp only [horariumref10_Weeks.l1] at H
                    by_cases c14 : (wrap64 (x5_3 + 1)) < 20
                    · rw [if_pos c14] at H
                      have c14b0 : decide ((wrap64 (x5_3 + 1)) < 20) = true := decide_eq_true c14
                      clear c14
                      (first | rw [c14b0] | (simp only [i64_w, i32_w]; rw [c14b0]) | skip)
                      obtain ⟨ji15, hji15⟩ : ∃ j_ : Int, (IntKind.u64.wrap (wrap64 (x5_3 + 1))) = j_ := ⟨_, rfl⟩
                      replace H : (if 0 ≤ (ji15) then (if (Int.tmod (shr .u32 a0 (ji15)) 2) = 1 then (horariumref10_Weeks.l1 k3 a0 x3_1 x4_1 (wrap64 (x5_3 + 1))) else (horariumref10_Weeks.j3 k3 a0 x3_1 x4_1 x5_3)) else (none)) = some r := by first | (rw [hji15] at H; exact H) | (simp only [hji15] at H ⊢; exact H)
                      by_cases c16 : 0 ≤ (ji15)
                      · rw [if_pos c16] at H
                        have c16b0 := eq_true c16
                        have c16b1 : decide (0 ≤ (ji15)) = true := decide_eq_true c16
                        clear c16
                        obtain ⟨ji17, hji17⟩ : ∃ j_ : Int, (shr .u32 a0 (ji15)) = j_ := ⟨_, rfl⟩
                        replace H : (if (Int.tmod (ji17) 2) = 1 then (horariumref10_Weeks.l1 k3 a0 x3_1 x4_1 (wrap64 (x5_3 + 1))) else (horariumref10_Weeks.j3 k3 a0 x3_1 x4_1 x5_3)) = some r := by first | (rw [hji17] at H; exact H) | (simp only [hji17] at H ⊢; exact H)
                        have hji17_ : (a0 / 2 ^ min (ji15).toNat 32) = ji17 := hji17
                        have hji17z : (ji15) ≤ 32 → (a0 / 2 ^ (ji15).toNat) = ji17 := shr_small hji17
                        by_cases c18 : (Int.tmod (ji17) 2) = 1
                        · rw [if_pos c18] at H
                          have c18b0 : ((Int.tmod (ji17) 2) == 1) = true := beq_iff_eq.mpr c18
                          have c18b1 : ((Int.tmod (ji17) 2) != 1) = false := bne_eq_false_iff_eq.mpr c18
                          clear c18
                          have H' := Aside0.mk H
                          clear H
                          go_wp2
                          go_roundg k3
                          case measure => have := HK1.out; have := HJ2.out; have := HK3.out; omega
                          case rel => exact ⟨(wrap64 (x5_3 + 1)), (by first | rfl | (simp; done) | (simp [*]; done)), H', ⟨by have := HK1.out; have := HJ2.out; have := HK3.out; omega⟩, ⟨by repeat (first | (with_reducible first | exact HB.out | apply below_alloc | apply pw_below_drewN | apply below_drew1) | exact HB.out)⟩⟩
                        · rw [if_neg c18] at H
                          have c18b0 : ((Int.tmod (ji17) 2) == 1) = false := beq_eq_false_iff_ne.mpr c18
                          have c18b1 : ((Int.tmod (ji17) 2) != 1) = true := bne_iff_ne.mpr c18
                          have H' := Aside0.mk H
                          clear H
                          go_wp2
                          go_meet
                          case rel => exact ⟨_, (x5_3), (by first | rfl | (simp; done) | (simp [*]; done)), H', ⟨by have := HK1.out; have := HJ2.out; have := HK3.out; first | omega | exact Nat.le_refl _⟩, ⟨by repeat (first | (with_reducible first | exact HB.out | apply below_alloc | apply pw_below_drewN | apply below_drew1) | exact HB.out)⟩⟩
                      · rw [if_neg c16] at H
                        exact absurd H (by simp)
                    · rw [if_neg c14] at H
                      have c14b0 : decide ((wrap64 (x5_3 + 1)) < 20) = false := decide_eq_false c14
                      clear c14
                      (first | rw [c14b0] | (simp only [i64_w, i32_w]; rw [c14b0]) | skip)
                      have H' := Aside0.mk H
                      clear H
                      go_wp2
                      go_meet
                      case rel => exact ⟨_, (x5_3), (by first | rfl | (simp; done) | (simp [*]; done)), H', ⟨by have := HK1.out; have := HJ2.out; have := HK3.out; first | omega | exact Nat.le_refl _⟩, ⟨by repeat (first | (with_reducible first | exact HB.out | apply below_alloc | apply pw_below_drewN | apply below_drew1) | exact HB.out)⟩⟩
              case rest =>
                clear HC13
                try clear c1
                try clear c2
                try clear c2b0
                try clear p2
                try clear c5
                try clear c5b0
                try clear c5b1
                try clear p6
                try clear c7
                try clear c7b0
                try clear c7b1
                try clear c8
                try clear c8b0
                try clear c10
                try clear c10b0
                try clear c10b1
                try clear c12
                try clear c14
                try clear c14b0
                try clear c16
                try clear c16b0
                try clear c16b1
                try clear c18
                try clear c18b0
                try clear c18b1
                try clear p2
                try clear p6
                obtain ⟨kq, x5_12, rfl, HA, HJ12, HB⟩ := hcut
                cases kq with
                | zero => exact absurd HA.out (by simp [horariumref10_Weeks.j3])
                | succ kj12 =>
                  have H := HA.out
                  clear HA
                  simp only [horariumref10_Weeks.j3] at H
                  have HC19 := Aside0.mk H
                  clear H
                  go_upto_if 45 with (fail)
                  go_cut [3] (fun v3 wc => ∃ (kq : Nat) (x3_18 : ByteArray), v3 = .string x3_18 ∧ Aside0 (horariumref10_Weeks.j4 kq a0 x3_18 x4_1 x5_12 = some r) ∧ Aside0 (kq ≤ kj12) ∧ Aside0 (Below w.heap.size w wc))
                  case first =>
                    have H := HC19.out
                    clear HC19
                    by_cases c20 : x3_1.toList = ([] : List UInt8)
                    · rw [if_pos c20] at H
                      have c20b0 : (x3_1.toList == ([] : List UInt8)) = true := beq_iff_eq.mpr c20
                      have c20b1 : (x3_1.toList != ([] : List UInt8)) = false := bne_eq_false_iff_eq.mpr c20
                      try have c20b7 : x3_1.toList.isEmpty = true := List.isEmpty_iff.2 c20
                      clear c20
                      (first | rw [c20b0] | (simp only [i64_w, i32_w]; rw [c20b0]) | (rw [c20b7]; simp only [Bool.not_true, Bool.not_false]) | skip)
                      have H' := Aside0.mk H
                      clear H
                      go_wp2
                      go_meet
                      case rel => exact ⟨_, (x3_1), (by first | rfl | (simp; done) | (simp [*]; done)), H', ⟨by have := HK1.out; have := HJ2.out; have := HJ12.out; first | omega | exact Nat.le_refl _⟩, ⟨by repeat (first | (with_reducible first | exact HB.out | apply below_alloc | apply pw_below_drewN | apply below_drew1) | exact HB.out)⟩⟩
                    · rw [if_neg c20] at H
                      have c20b0 : (x3_1.toList == ([] : List UInt8)) = false := beq_eq_false_iff_ne.mpr c20
                      have c20b1 : (x3_1.toList != ([] : List UInt8)) = true := bne_iff_ne.mpr c20
                      try have c20b7 : x3_1.toList.isEmpty = false := List.isEmpty_eq_false_iff.2 c20
                      (first | rw [c20b0] | (simp only [i64_w, i32_w]; rw [c20b0]) | (rw [c20b7]; simp only [Bool.not_true, Bool.not_false]) | skip)
                      by_cases c21 : x3_1.size + 1 ≤ 9223372036854775807
                      · rw [if_pos c21] at H
                        have c21b0 := eq_true c21
                        have c21b1 : decide (x3_1.size + 1 ≤ 9223372036854775807) = true := decide_eq_true c21
                        try have c21b2 : (9223372036854775807 < x3_1.size + 1) = False := eq_false (Nat.not_lt.2 c21)
                        have H' := Aside0.mk H
                        clear H
                        go_wp2
                        go_meet
                        case rel => exact ⟨_, (x3_1 ++ (⟨#[44]⟩ : ByteArray)), (by first | rfl | (simp; done) | (simp [*]; done)), H', ⟨by have := HK1.out; have := HJ2.out; have := HJ12.out; first | omega | exact Nat.le_refl _⟩, ⟨by repeat (first | (with_reducible first | exact HB.out | apply below_alloc | apply pw_below_drewN | apply below_drew1) | exact HB.out)⟩⟩
                      · rw [if_neg c21] at H
                        exact absurd H (by simp)
                  case rest =>
                    clear HC19
                    try clear c1
                    try clear c2
                    try clear c2b0
                    try clear p2
                    try clear c5
                    try clear c5b0
                    try clear c5b1
                    try clear p6
                    try clear c7
                    try clear c7b0
                    try clear c7b1
                    try clear c8
                    try clear c8b0
                    try clear c10
                    try clear c10b0
                    try clear c10b1
                    try clear c12
                    try clear c14
                    try clear c14b0
                    try clear c16
                    try clear c16b0
                    try clear c16b1
                    try clear c18
                    try clear c18b0
                    try clear c18b1
                    try clear c19
                    try clear c20
                    try clear c20b0
                    try clear c20b1
                    try clear c21
                    try clear c21b0
                    try clear c21b1
                    try clear c21b2
                    try clear p2
                    try clear p6
                    obtain ⟨kq, x3_18, rfl, HA, HJ18, HB⟩ := hcut
                    cases kq with
                    | zero => exact absurd HA.out (by simp [horariumref10_Weeks.j4])
                    | succ kj18 =>
                      have H := HA.out
                      clear HA
                      simp only [horariumref10_Weeks.j4] at H
                      replace H := Option.bind_eq_some_iff.mp H
                      obtain ⟨t314, A220, H⟩ := H
                      replace H : (if x3_18.size + t314.size ≤ 9223372036854775807 then (if x5_12 > x4_1 then (if (x3_18 ++ t314).size + 1 ≤ 9223372036854775807 then ((horariumref01_Print.f kj18 (wrap64 (x5_12 + 1))).bind fun t315 => (if ((x3_18 ++ t314) ++ (⟨#[45]⟩ : ByteArray)).size + t315.size ≤ 9223372036854775807 then (horariumref10_Weeks.l0 kj18 a0 (((x3_18 ++ t314) ++ (⟨#[45]⟩ : ByteArray)) ++ t315) (wrap64 (x4_1 + 1))) else (none))) else (none)) else (horariumref10_Weeks.l0 kj18 a0 (x3_18 ++ t314) (wrap64 (x4_1 + 1)))) else (none)) = some r := H
                      have A22 := Aside0.mk A220
                      clear A220
                      by_cases c23 : x3_18.size + t314.size ≤ 9223372036854775807
                      · rw [if_pos c23] at H
                        have c23b0 := eq_true c23
                        have c23b1 : decide (x3_18.size + t314.size ≤ 9223372036854775807) = true := decide_eq_true c23
                        try have c23b2 : (9223372036854775807 < x3_18.size + t314.size) = False := eq_false (Nat.not_lt.2 c23)
                        by_cases c24 : x5_12 > x4_1
                        · rw [if_pos c24] at H
                          have c24b0 : decide (x4_1 < x5_12) = true := decide_eq_true c24
                          clear c24
                          by_cases c25 : (x3_18 ++ t314).size + 1 ≤ 9223372036854775807
                          · rw [if_pos c25] at H
                            have c25b0 := eq_true c25
                            have c25b1 : decide ((x3_18 ++ t314).size + 1 ≤ 9223372036854775807) = true := decide_eq_true c25
                            try have c25b2 : (9223372036854775807 < (x3_18 ++ t314).size + 1) = False := eq_false (Nat.not_lt.2 c25)
                            try (have c25b5_0 : (x3_18 ++ t314).size = x3_18.size + t314.size := by first | exact ByteArray.size_append | (rw [ByteArray.size_append]; done) | (rw [ByteArray.size_append]; rfl) | (simp only [ByteArray.size_append, Nat.add_assoc]; done) | (simp only [ByteArray.size_append, Nat.add_assoc]; rfl))
                            have c25b4 := c25
                            try simp only [c25b5_0] at c25b4
                            try have c25b6 := eq_false (Nat.not_lt.2 c25b4)
                            replace H := Option.bind_eq_some_iff.mp H
                            obtain ⟨t315, A260, H⟩ := H
                            replace H : (if ((x3_18 ++ t314) ++ (⟨#[45]⟩ : ByteArray)).size + t315.size ≤ 9223372036854775807 then (horariumref10_Weeks.l0 kj18 a0 (((x3_18 ++ t314) ++ (⟨#[45]⟩ : ByteArray)) ++ t315) (wrap64 (x4_1 + 1))) else (none)) = some r := H
                            have A26 := Aside0.mk A260
                            clear A260
                            by_cases c27 : ((x3_18 ++ t314) ++ (⟨#[45]⟩ : ByteArray)).size + t315.size ≤ 9223372036854775807
                            · rw [if_pos c27] at H
                              have c27b0 := eq_true c27
                              have c27b1 : decide (((x3_18 ++ t314) ++ (⟨#[45]⟩ : ByteArray)).size + t315.size ≤ 9223372036854775807) = true := decide_eq_true c27
                              try have c27b2 : (9223372036854775807 < ((x3_18 ++ t314) ++ (⟨#[45]⟩ : ByteArray)).size + t315.size) = False := eq_false (Nat.not_lt.2 c27)
                              try (have c27b5_0 : (x3_18 ++ t314).size = x3_18.size + t314.size := by first | exact ByteArray.size_append | (rw [ByteArray.size_append]; done) | (rw [ByteArray.size_append]; rfl) | (simp only [ByteArray.size_append, Nat.add_assoc]; done) | (simp only [ByteArray.size_append, Nat.add_assoc]; rfl))
                              try (have c27b5_1 : ((x3_18 ++ t314) ++ (⟨#[45]⟩ : ByteArray)).size = x3_18.size + t314.size + 1 := by first | exact ByteArray.size_append | (rw [ByteArray.size_append]; done) | (rw [ByteArray.size_append]; rfl) | (simp only [ByteArray.size_append, Nat.add_assoc]; done) | (simp only [ByteArray.size_append, Nat.add_assoc]; rfl) | (simp only [ByteArray.size_append, c27b5_0]; done) | (simp only [ByteArray.size_append, c27b5_0]; rfl))
                              have c27b4 := c27
                              try simp only [c27b5_0, c27b5_1] at c27b4
                              try have c27b6 := eq_false (Nat.not_lt.2 c27b4)
                              have H' := Aside0.mk H
                              clear H
                              go_wp2_with (first | ((with_reducible refine gate_callee (f := 33) rfl ?_); refine goesL_ (some 51) rfl rfl Tryd.func33 (by kernel_rfl) rfl #[.int .i64 (wrap64 (x4_1 + 1))] rfl (by (try simp only [List.map_toArray, List.map_cons, List.map_nil]); first | done | rfl | (simp only [List.length_drop, List.length_take]; rfl)) ?_; (with_reducible refine (horariumref01_Print.calls kj18 (wrap64 (x4_1 + 1)) t314 _ A22.out).mono ?_); rintro e w28 ⟨rfl, hb⟩; refine ⟨_, rfl, ?_⟩; have n0_ := Aside0.mk (below_step (by repeat (first | (with_reducible first | exact HB.out | apply below_alloc | apply pw_below_drewN | apply below_drew1) | exact HB.out)) hb); clear HB; have HB := n0_; clear n0_; (try clear hb); (try clear hb2); (try clear hk); (try clear hi)) | ((with_reducible refine gate_callee (f := 33) rfl ?_); refine goesL_ (some 60) rfl rfl Tryd.func33 (by kernel_rfl) rfl #[.int .i64 (wrap64 (x5_12 + 1))] rfl (by (try simp only [List.map_toArray, List.map_cons, List.map_nil]); first | done | rfl | (simp only [List.length_drop, List.length_take]; rfl)) ?_; (with_reducible refine (horariumref01_Print.calls kj18 (wrap64 (x5_12 + 1)) t315 _ A26.out).mono ?_); rintro e w29 ⟨rfl, hb⟩; refine ⟨_, rfl, ?_⟩; have n0_ := Aside0.mk (below_step (by repeat (first | (with_reducible first | exact HB.out | apply below_alloc | apply pw_below_drewN | apply below_drew1) | exact HB.out)) hb); clear HB; have HB := n0_; clear n0_; (try clear hb); (try clear hb2); (try clear hk); (try clear hi)))
                              go_roundg kj18
                              case measure => have := HK1.out; have := HJ2.out; have := HJ12.out; have := HJ18.out; omega
                              case rel => exact ⟨(((x3_18 ++ t314) ++ (⟨#[45]⟩ : ByteArray)) ++ t315), (wrap64 (x4_1 + 1)), (by first | rfl | (simp; done) | (simp [*]; done)), (by first | rfl | (simp; done) | (simp [*]; done)), H', ⟨by have := HK1.out; have := HJ2.out; have := HJ12.out; have := HJ18.out; omega⟩, ⟨by repeat (first | (with_reducible first | exact HB.out | apply below_alloc | apply pw_below_drewN | apply below_drew1) | exact HB.out)⟩⟩
                            · rw [if_neg c27] at H
                              exact absurd H (by simp)
                          · rw [if_neg c25] at H
                            exact absurd H (by simp)
                        · rw [if_neg c24] at H
                          have c24b0 : decide (x4_1 < x5_12) = false := decide_eq_false c24
                          clear c24
                          have H' := Aside0.mk H
                          clear H
                          go_wp2_with (first | ((with_reducible refine gate_callee (f := 33) rfl ?_); refine goesL_ (some 51) rfl rfl Tryd.func33 (by kernel_rfl) rfl #[.int .i64 (wrap64 (x4_1 + 1))] rfl (by (try simp only [List.map_toArray, List.map_cons, List.map_nil]); first | done | rfl | (simp only [List.length_drop, List.length_take]; rfl)) ?_; (with_reducible refine (horariumref01_Print.calls kj18 (wrap64 (x4_1 + 1)) t314 _ A22.out).mono ?_); rintro e w30 ⟨rfl, hb⟩; refine ⟨_, rfl, ?_⟩; have n0_ := Aside0.mk (below_step (by repeat (first | (with_reducible first | exact HB.out | apply below_alloc | apply pw_below_drewN | apply below_drew1) | exact HB.out)) hb); clear HB; have HB := n0_; clear n0_; (try clear hb); (try clear hb2); (try clear hk); (try clear hi)))
                          go_roundg kj18
                          case measure => have := HK1.out; have := HJ2.out; have := HJ12.out; have := HJ18.out; omega
                          case rel => exact ⟨(x3_18 ++ t314), (wrap64 (x4_1 + 1)), (by first | rfl | (simp; done) | (simp [*]; done)), (by first | rfl | (simp; done) | (simp [*]; done)), H', ⟨by have := HK1.out; have := HJ2.out; have := HJ12.out; have := HJ18.out; omega⟩, ⟨by repeat (first | (with_reducible first | exact HB.out | apply below_alloc | apply pw_below_drewN | apply below_drew1) | exact HB.out)⟩⟩
                      · rw [if_neg c23] at H
                        exact absurd H (by simp)
      · rw [if_neg c2] at H
        have c2b0 : decide (x4_1 < 20) = false := decide_eq_false c2
        clear c2
        obtain rfl := Option.some.inj H
        go_wp2
        go_ret
        exact ⟨by first | rfl | (simp [errW_none, errW_some] <;> rfl) | (simp [*, errW_none, errW_some] <;> rfl), by repeat (first | (with_reducible first | exact HB.out | apply below_alloc | apply pw_below_drewN | apply below_drew1) | exact HB.out)⟩
end Go.Proofs.YtnagecfpbkffpaaDoor.P
