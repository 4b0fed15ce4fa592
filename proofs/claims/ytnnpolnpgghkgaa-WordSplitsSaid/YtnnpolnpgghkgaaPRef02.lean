import Derived.Test.YtnnpolnpgghkgaaPx5
import Derived.Test.YtnnpolnpgghkgaaQWord
/-! The document's Quote: by hand (the print's walk falls at two cuts of a constant in one region that draws). -/
namespace Go.Proofs.Ytnnpolnpgghkgaa.P
open Go.RowKit Go.Proofs.YtnnpolnpgghkgaaW.PrintWords Go.Proofs.YtnnpolnpgghkgaaW.PrintLast Go.Proofs.YtnnpolnpgghkgaaW.PrintMore
set_option linter.unusedVariables false
theorem stands_all : ∀ c : Fin 256, horariumref02_stands.f 20 (c.1 : Int) = some (Q.plainI (c.1 : Int)) := by decide +kernel
theorem stands_eq (c : Int) (h0 : 0 ≤ c) (h1 : c ≤ 255) : horariumref02_stands.f 20 c = some (Q.plainI c) := by
  have h := stands_all ⟨c.toNat, by omega⟩
  have e : ((c.toNat : Nat) : Int) = c := by omega
  simp only [e] at h
  exact h
def horariumref02_Quote.f (a0 : ByteArray) : Option ByteArray := if a0.size ≤ 140737488351232 then some (Q.quoteB a0) else none
set_option maxHeartbeats 1600000 in
theorem ref_quote_walk (a0 : ByteArray) (w : World) (hs : a0.size ≤ 140737488351232) (h0 : a0.toList ≠ []) :
    Calls Try.prog 16 #[.string a0] w fun e w' => e = .returned (.string (Q.quoteAt a0 a0.size)) ∧ Drawn0 w w' := by
  have c2b0 : (a0.toList == ([] : List UInt8)) = false := beq_eq_false_iff_ne.mpr h0
  have c2b1 : (a0.toList != ([] : List UInt8)) = true := bne_iff_ne.mpr h0
  clear h0
  go_enter Try.func16, Try.ntmps16
  go_wp2
  repeat (go_quiet (fail); try go_wp2)
  go_loopw [3, 4] (fun v i w' => ∃ x : Int, v = .string (Q.quoteAt a0 x.toNat) ∧ i = .int .i64 x ∧ Aside0 (0 ≤ x ∧ x ≤ a0.size) ∧ Drawn0 w w') (fun v i w' => a0.size - (intOf i).toNat)
  case atStart => exact ⟨0, rfl, rfl, ⟨by omega, by omega⟩, by repeat (first | exact Drawn0.refl _ | apply Drawn0.step)⟩
  case round =>
    obtain ⟨x, rfl, rfl, hx, ⟨m1, rfl⟩⟩ := hrel
    by_cases hlt : x < (a0.size : Int)
    · have q5b : decide (x < (a0.size : Int)) = true := decide_eq_true hlt
      have p5 : 0 ≤ x := hx.out.1
      have p6 : x ≤ 140737488351232 := by omega
      have hx5 := bt_at a0 x
      have hr := Aside0.mk (bt_range a0 x)
      have hk := Aside0.mk (show x.toNat < a0.size by have := hx.out; omega)
      have HX := Aside0.mk (show (x + 1).toNat = x.toNat + 1 ∧ x + 1 ≤ 9223372036854775807 by have := hx.out; omega)
      have q5 : (x < (a0.size : Int)) = True := eq_true hlt
      have q6 := Aside0.mk hlt
      clear hlt
      have hsz := Q.quoteAt_size a0 x.toNat
      by_cases hp : Q.plainI (bt a0 x) = true
      · have hst := stands_eq (bt a0 x) hr.out.1 hr.out.2
        rw [hp] at hst
        replace hst := Aside0.mk hst
        have hstep := Q.step_plain a0 x.toNat hk.out (by rw [bt_at a0 x hk.out]; exact hp)
        clear hp
        rw [← HX.out.1] at hstep
        have HS := Aside0.mk hstep
        clear hstep
        generalize hq : Q.quoteAt a0 x.toNat = q0 at *
        clear hq
        have e1 : (a0.extract x.toNat (x + 1).toNat).size ≤ a0.size := by rw [ByteArray.size_extract]; omega
        have f1 : (x ≤ x + 1) = True := eq_true (by omega)
        have f2 : (x + 1 ≤ (a0.size : Int)) = True := eq_true (by have := q6.out; omega)
        have f3 : (q0.size + (a0.extract x.toNat (x + 1).toNat).size ≤ 9223372036854775807) = True := eq_true (by omega)
        have f3' : (9223372036854775807 < q0.size + (a0.extract x.toNat (x + 1).toNat).size) = False := eq_false (by omega)
        clear e1
        go_wp2_with (first | (go_at_call 25; (with_reducible refine (horariumref02_stands.calls _ (bt a0 x) _ _ hst.out).mono ?_); rintro e w' ⟨rfl, ⟨nd, rfl⟩⟩))
        repeat (go_quiet (fail); try go_wp2)
        go_roundw
        case rel => exact ⟨x + 1, by rw [HS.out], rfl, ⟨by have := hx.out; omega, by have := q6.out; omega⟩, by repeat (first | exact Drawn0.refl _ | apply Drawn0.step)⟩
        case measure => have := q6.out; have := hx.out; simp [intOf]; omega
      · have hp' : Q.plainI (bt a0 x) = false := by simpa using hp
        clear hp
        have hst := stands_eq (bt a0 x) hr.out.1 hr.out.2
        rw [hp'] at hst
        replace hst := Aside0.mk hst
        have hstep := Q.step_other a0 x.toNat hk.out (bt a0 x) (bt_at a0 x hk.out) hp'
        clear hp'
        rw [← HX.out.1] at hstep
        have HS := Aside0.mk hstep
        clear hstep
        have hn0 := hr.out.1
        have hn1 := hr.out.2
        clear hr
        generalize hq : Q.quoteAt a0 x.toNat = q0 at *
        clear hq
        generalize hn : bt a0 x = n at *
        clear hn
        have f1 : (0 ≤ n / 16) = True := eq_true (by omega)
        have f2 : (n / 16 ≤ n / 16 + 1) = True := eq_true (by omega)
        have f3 : (n / 16 + 1 ≤ 16) = True := eq_true (by omega)
        have f4 : (0 ≤ n % 16) = True := eq_true (by omega)
        have f5 : (n % 16 ≤ n % 16 + 1) = True := eq_true (by omega)
        have f6 : (n % 16 + 1 ≤ 16) = True := eq_true (by omega)
        have s1 : (q0.size + 1 ≤ 9223372036854775807) = True := eq_true (by omega)
        have s1' : (9223372036854775807 < q0.size + 1) = False := eq_false (by omega)
        have e1 : ((⟨#[48, 49, 50, 51, 52, 53, 54, 55, 56, 57, 97, 98, 99, 100, 101, 102]⟩ : ByteArray).extract (n / 16).toNat (n / 16 + 1).toNat).size = 1 := by rw [Q.digit_cut _ (by omega) (by omega)]; rfl
        have e2 : ((⟨#[48, 49, 50, 51, 52, 53, 54, 55, 56, 57, 97, 98, 99, 100, 101, 102]⟩ : ByteArray).extract (n % 16).toNat (n % 16 + 1).toNat).size = 1 := by rw [Q.digit_cut _ (by omega) (by omega)]; rfl
        have e3 : (q0 ++ (⟨#[37]⟩ : ByteArray)).size = q0.size + 1 := by rw [ByteArray.size_append]; rfl
        go_wp2_with (first | (go_at_call 25; (with_reducible refine (horariumref02_stands.calls _ n _ _ hst.out).mono ?_); rintro e w' ⟨rfl, ⟨nd, rfl⟩⟩))
        repeat (go_quiet (fail); try go_wp2)
        go_roundw
        case rel => exact ⟨x + 1, by rw [HS.out], rfl, ⟨by have := hx.out; omega, by have := q6.out; omega⟩, by repeat (first | exact Drawn0.refl _ | apply Drawn0.step)⟩
        case measure => have := q6.out; have := hx.out; simp [intOf]; omega
    · have q5b : decide (x < (a0.size : Int)) = false := decide_eq_false hlt
      have hxe : x.toNat = a0.size := by have := hx.out; omega
      rw [hxe]
      clear hlt hxe
      go_wp2
      repeat (go_quiet (fail); try go_wp2)
      go_ret
      exact ⟨rfl, by repeat (first | exact Drawn0.refl _ | apply Drawn0.step)⟩
theorem horariumref02_Quote.calls (a0 : ByteArray) (r : ByteArray) (w : World) (h : horariumref02_Quote.f a0 = some r) :
    Calls Try.prog 16 #[.string a0] w fun e w' => e = .returned (.string r) ∧ Drawn0 w w' := by
  unfold horariumref02_Quote.f at h
  by_cases hs : a0.size ≤ 140737488351232
  · rw [if_pos hs] at h
    obtain rfl : Q.quoteB a0 = r := by simpa using h
    by_cases h0 : a0.toList = []
    · have c2b0 : (a0.toList == ([] : List UInt8)) = true := beq_iff_eq.mpr h0
      have c2b1 : (a0.toList != ([] : List UInt8)) = false := bne_eq_false_iff_eq.mpr h0
      have hq : Q.quoteB a0 = ⟨#[37]⟩ := by
        obtain ⟨⟨l⟩⟩ := a0
        cases l with
        | nil => rfl
        | cons b l => rw [ByteArray.toList_eq] at h0; exact absurd h0 (by simp)
      rw [hq]
      clear h0 hq h
      go_enter Try.func16, Try.ntmps16
      go_wp2
      repeat (go_quiet (fail); try go_wp2)
      go_ret
      exact ⟨rfl, by repeat (first | exact Drawn0.refl _ | apply Drawn0.step)⟩
    · have hne : a0.size ≠ 0 := by
        intro h1
        apply h0
        obtain ⟨⟨l⟩⟩ := a0
        cases l with
        | nil => rw [ByteArray.toList_eq]
        | cons b l => exact absurd h1 (by simp [ByteArray.size])
      rw [← Q.quoteAt_full a0 hne]
      exact ref_quote_walk a0 w hs h0
  · rw [if_neg hs] at h
    exact absurd h (by simp)
end Go.Proofs.Ytnnpolnpgghkgaa.P
