import Derived.Test.YtnagecfpbkffpaaDoorPCTime
import Derived.Test.YtnagecfpbkffpaaDoorPCWeeks
import Derived.Test.YtnagecfpbkffpaaDoorPx4
import Derived.Test.YtnagecfpbkffpaaDoorPx16
namespace Go.Proofs.YtnagecfpbkffpaaDoor.P
open Go.RowKit Go.Proofs.YtnagecfpbkffpaaDoorW.PrintWords
set_option linter.unusedVariables false
set_option linter.unusedSimpArgs false
def timeB (a b c w d s l : Int) : ByteArray := if rightB a b c w d s l = true then strOfNums (Q.timeL w d s l) else ⟨#[]⟩
theorem cat_size {x y : ByteArray} {n m : Nat} (hx : x.size ≤ n) (hy : y.size ≤ m) : (x ++ y).size ≤ n + m := by
  rw [ByteArray.size_append]; omega
theorem one_size (c : UInt8) : (⟨#[c]⟩ : ByteArray).size ≤ 1 := Nat.le_refl _
theorem fits {x y : ByteArray} {n m : Nat} (hx : x.size ≤ n) (hy : y.size ≤ m) (h : n + m ≤ 9223372036854775807) : x.size + y.size ≤ 9223372036854775807 := Nat.le_trans (Nat.add_le_add hx hy) h
theorem fits1 {x : ByteArray} {n : Nat} (hx : x.size ≤ n) (h : n + 1 ≤ 9223372036854775807) : x.size + 1 ≤ 9223372036854775807 := Nat.le_trans (Nat.add_le_add_right hx 1) h
theorem time_cat (w d s l : Int) : weeksB w ++ ⟨#[32]⟩ ++ strOfNums (daysL d 7) ++ ⟨#[32]⟩ ++ decB s.toNat ++ ⟨#[43]⟩ ++ decB l.toNat = strOfNums (Q.timeL w d s l) := by
  unfold weeksB decB Q.timeL
  rw [show (⟨#[32]⟩ : ByteArray) = strOfNums [32] from rfl, show (⟨#[43]⟩ : ByteArray) = strOfNums [43] from rfl]
  simp only [str_append, List.append_assoc, Q.joinN, List.cons_append, List.nil_append]
theorem time_join {W D S L : Nat → Option ByteArray} (w d s l : Int) (hW : Ev W (weeksB w)) (hD : Ev D (strOfNums (daysL d 7))) (hS : Ev S (decB s.toNat)) (hL : Ev L (decB l.toNat)) :
    Ev (fun k => (W k).bind fun t319 => (if t319.size + 1 ≤ 9223372036854775807 then ((D k).bind fun t320 => (if (t319 ++ (⟨#[32]⟩ : ByteArray)).size + t320.size ≤ 9223372036854775807 then (if ((t319 ++ (⟨#[32]⟩ : ByteArray)) ++ t320).size + 1 ≤ 9223372036854775807 then ((S k).bind fun t321 => (if (((t319 ++ (⟨#[32]⟩ : ByteArray)) ++ t320) ++ (⟨#[32]⟩ : ByteArray)).size + t321.size ≤ 9223372036854775807 then (if ((((t319 ++ (⟨#[32]⟩ : ByteArray)) ++ t320) ++ (⟨#[32]⟩ : ByteArray)) ++ t321).size + 1 ≤ 9223372036854775807 then ((L k).bind fun t322 => (if (((((t319 ++ (⟨#[32]⟩ : ByteArray)) ++ t320) ++ (⟨#[32]⟩ : ByteArray)) ++ t321) ++ (⟨#[43]⟩ : ByteArray)).size + t322.size ≤ 9223372036854775807 then (some ((((((t319 ++ (⟨#[32]⟩ : ByteArray)) ++ t320) ++ (⟨#[32]⟩ : ByteArray)) ++ t321) ++ (⟨#[43]⟩ : ByteArray)) ++ t322)) else (none))) else (none)) else (none))) else (none)) else (none))) else (none))) (strOfNums (Q.timeL w d s l)) := by
  have s0 := weeksB_size w
  have s1 := daysL_size d 7
  have s2 := decB_size s.toNat
  have s3 := decB_size l.toNat
  have a1 := cat_size s0 (one_size 32)
  have a2 := cat_size a1 s1
  have a3 := cat_size a2 (one_size 32)
  have a4 := cat_size a3 s2
  have a5 := cat_size a4 (one_size 43)
  refine Ev.call hW (Ev.ifp (fits1 s0 (by decide)) (Ev.call hD (Ev.ifp (fits a1 s1 (by decide)) (Ev.ifp (fits1 a2 (by decide)) (Ev.call hS (Ev.ifp (fits a3 s2 (by decide)) (Ev.ifp (fits1 a4 (by decide)) (Ev.call hL (Ev.ifp (fits a5 s3 (by decide)) ?_)))))))))
  exact Ev.eq (Ev.now _) (time_cat w d s l)
theorem print_ev (a b c w d s l : Int) (hw0 : 0 ≤ w) (hw1 : w ≤ 4294967295) (hd0 : 0 ≤ d) (hd1 : d ≤ 255) : Ev (fun k => clock_Print.f k a b c w d s l) (timeB a b c w d s l) := by
  unfold clock_Print.f timeB
  refine Ev.call (Ev.const (right_eq a b c w d s l hw0 hw1 hd0 hd1)) ?_
  by_cases hr : rightB a b c w d s l = true
  · rw [if_pos hr]
    obtain ⟨_, h1, h2, h3, h4, _⟩ := Q.right_bounds hr
    exact Ev.ifp hr (time_join w d s l (weeks_ev w hw0 hw1) (Ev.const (days_eq d hd0 hd1)) (Ev.const (print_eq s h1 (by omega))) (Ev.const (print_eq l (by omega) (by omega))))
  · rw [if_neg hr]
    exact Ev.ifn hr (Ev.now _)
theorem time_Bs (w d s l : Int) (hd0 : 0 ≤ d) (hd1 : d ≤ 255) : Q.Bs (Q.timeL w d s l) := by
  refine Q.joinN_bytes 32 (by omega) _ ?_
  intro p hp
  simp only [List.mem_cons, List.not_mem_nil, or_false] at hp
  rcases hp with rfl | rfl | rfl
  · exact Q.joinN_bytes 44 (by omega) _ (by
      intro p hp
      obtain ⟨r, _, rfl⟩ := List.mem_map.1 hp
      exact Q.runT_Bs r)
  · have := days_Bs ⟨d.toNat, by omega⟩
    rwa [show (((⟨d.toNat, by omega⟩ : Fin 256).1 : Nat) : Int) = d by show ((d.toNat : Nat) : Int) = d; omega] at this
  · refine Q.joinN_bytes 43 (by omega) _ ?_
    intro p hp c hc
    simp only [List.mem_cons, List.not_mem_nil, or_false] at hp
    rcases hp with rfl | rfl
    · have := Q.dec_digit _ c hc; omega
    · have := Q.dec_digit _ c hc; omega
end Go.Proofs.YtnagecfpbkffpaaDoor.P
