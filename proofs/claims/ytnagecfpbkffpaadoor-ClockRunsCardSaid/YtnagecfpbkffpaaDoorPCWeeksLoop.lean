import Derived.Test.YtnagecfpbkffpaaDoorPCWeeksRead
namespace Go.Proofs.YtnagecfpbkffpaaDoor.P
open Go.RowKit Go.Proofs.YtnagecfpbkffpaaDoorW.PrintWords
set_option linter.unusedVariables false
set_option linter.unusedSimpArgs false
def pwkB (s : ByteArray) : Int × Int := Q.parseWN (bytesOf s)
theorem shl_one (x : Nat) (hx : x < 20) : shl .u32 1 (x : Int) = ((2 ^ x : Nat) : Int) := by
  unfold shl
  rw [show min (x : Int).toNat IntKind.u32.bits = x by show min (x : Int).toNat 32 = x; omega]
  have h : 2 ^ x ≤ 2 ^ 19 := Nat.pow_le_pow_right (by decide) (by omega)
  have e : (1 : Int) * 2 ^ x = ((2 ^ x : Nat) : Int) := by rw [Int.one_mul]; norm_cast
  rw [e]
  show ((2 ^ x : Nat) : Int) % 4294967296 = _
  generalize 2 ^ x = p at h ⊢
  omega
theorem or_bit (A x : Nat) (hA : A < 2 ^ x) (hx : x < 20) : Go.bits .or .u32 (A : Int) (shl .u32 1 (x : Int)) = ((A + 2 ^ x : Nat) : Int) := by
  have h : 2 ^ x ≤ 2 ^ 19 := Nat.pow_le_pow_right (by decide) (by omega)
  rw [shl_one x hx, u32_or_nat _ _ (by omega) (by omega)]
  have h2 := Nat.two_pow_add_eq_or_of_lt hA 1
  rw [Nat.mul_one, Nat.or_comm] at h2
  rw [← h2, Nat.add_comm]
theorem or_loop (fits : Bool) (next b : Int) (L : List ByteArray) (len idx : Int) (hb : b ≤ 20) {r : Int × Int} : ∀ (d x : Nat) (acc : Int), (x : Int) + d = b →
    (∀ acc' : Int, (∀ A : Nat, acc = (A : Int) → A < 2 ^ x → acc' = ((A + (2 ^ b.toNat - 2 ^ x) : Nat) : Int)) → Ev (fun k => clock_ParseWeeks.l0 k acc' next fits L len (wrap64 (idx + 1))) r) →
    Ev (fun k => clock_ParseWeeks.l1 k acc next fits b (x : Int) L len idx) r := by
  intro d
  induction d with
  | zero =>
    intro x acc hx h
    refine Ev.step (fun k => clock_ParseWeeks.l1.eq_2 ..) (Ev.ifn (by omega) (h acc ?_))
    intro A hA _
    rw [show b.toNat = x by omega, Nat.sub_self, Nat.add_zero, hA]
  | succ d ih =>
    intro x acc hx h
    refine Ev.step (fun k => clock_ParseWeeks.l1.eq_2 ..) (Ev.ifp (by omega) (Ev.ifp (by omega) ?_))
    rw [w64_in (by omega) (by omega)]
    refine ih (x + 1) _ (by omega) (fun acc' hacc => h acc' ?_)
    intro A hA hlt
    have h5 : 2 ^ (x + 1) = 2 ^ x + 2 ^ x := by rw [Nat.pow_succ]; omega
    have h6 : 2 ^ (x + 1) ≤ 2 ^ b.toNat := Nat.pow_le_pow_right (by decide) (by omega)
    have h7 := hacc (A + 2 ^ x) (by rw [hA, or_bit A x hlt (by omega)]) (by omega)
    rw [h7]
    congr 1
    omega
theorem run_range (p : List Int) (a b : Int) (h : Q.runP p = some (a, b)) : 0 ≤ a ∧ a ≤ b ∧ b < 100 := by
  unfold Q.runP at h
  match hp : Q.piecesA 45 [] p, h with
  | [x], h =>
    simp only at h
    obtain ⟨n, hn, h2⟩ := Option.bind_eq_some_iff.1 h
    have h3 : n = a ∧ n = b := by simpa using h2
    obtain ⟨h4, h5, _⟩ := Q.numN_of x n hn
    omega
  | [x, y], h =>
    simp only at h
    obtain ⟨n, hn, h2⟩ := Option.bind_eq_some_iff.1 h
    obtain ⟨m, hm, h3⟩ := Option.bind_eq_some_iff.1 h2
    by_cases hlt : n < m
    · rw [if_pos hlt] at h3
      have h4 : n = a ∧ m = b := by simpa using h3
      obtain ⟨h5, h6, _⟩ := Q.numN_of x n hn
      obtain ⟨h8, h9, _⟩ := Q.numN_of y m hm
      omega
    · rw [if_neg hlt] at h3
      cases h3
theorem pwk_loop (ps : List (List Int)) (hl : ps.length ≤ 1000000) (hm : ∀ p ∈ ps, p.length ≤ 1000000) (hB : ∀ p ∈ ps, Q.Bs p) : ∀ (d i : Nat) (accI : Int) (acc : Nat) (next : Int) (fits : Bool), i ≤ ps.length → ps.length - i ≤ d →
    0 ≤ next → next ≤ 102 → (fits = true → accI = (acc : Int) ∧ acc < 2 ^ (next - 2).toNat) →
    Ev (fun k => clock_ParseWeeks.l0 k accI next fits (ps.map strOfNums) (ps.length : Int) (i : Int)) (Q.pwkN (ps.drop i) next acc fits) := by
  have hend : ∀ (i : Nat) (accI : Int) (acc : Nat) (next : Int) (fits : Bool), ps.length ≤ i → (fits = true → accI = (acc : Int) ∧ acc < 2 ^ (next - 2).toNat) →
      Ev (fun k => clock_ParseWeeks.l0 k accI next fits (ps.map strOfNums) (ps.length : Int) (i : Int)) (Q.pwkN (ps.drop i) next acc fits) := by
    intro i accI acc next fits h hf
    rw [List.drop_eq_nil_of_le h, Q.pwkN]
    refine Ev.step (fun k => clock_ParseWeeks.l0.eq_2 ..) (Ev.ifn (by omega) ?_)
    cases fits with
    | true => exact Ev.eq (Ev.ifp rfl (Ev.now _)) (by rw [(hf rfl).1]; rfl)
    | false => exact Ev.eq (Ev.ifn (by decide) (Ev.now _)) rfl
  intro d
  induction d with
  | zero => intro i accI acc next fits h1 hd h0 hn hf; exact hend i accI acc next fits (by omega) hf
  | succ d ih =>
    intro i accI acc next fits h1 hd h0 hn hf
    by_cases hi : i < ps.length
    · have hz := hm ps[i] (List.getElem_mem hi)
      obtain ⟨r, hr1, hr2⟩ := run_ev (strOfNums ps[i]) (by rw [strOfNums_size]; omega)
      rw [bytes_str _ (hB ps[i] (List.getElem_mem hi))] at hr2
      refine Ev.step (fun k => clock_ParseWeeks.l0.eq_2 ..) (Ev.ifp (by omega) (Ev.ifp (by omega) (Ev.ifp (by rw [List.length_map]; omega) ?_)))
      rw [rd_map ps i hi, List.drop_eq_getElem_cons hi, Q.pwkN]
      refine Ev.call hr1 ?_
      unfold RunAns at hr2
      have hw : wrap64 ((i : Int) + 1) = ((i + 1 : Nat) : Int) := by rw [w64_in (by omega) (by omega)]; rfl
      cases hrun : Q.runP ps[i] with
      | none =>
        rw [hrun] at hr2
        exact Ev.ifn (by rw [hr2]; decide) (Ev.step (fun k => clock_ParseWeeks.j1.eq_2 ..) (Ev.ifp rfl (Ev.now _)))
      | some ab =>
        obtain ⟨a, b⟩ := ab
        rw [hrun] at hr2
        simp only at hr2 ⊢
        subst hr2
        obtain ⟨g1, g2, g3⟩ := run_range _ a b hrun
        refine Ev.ifp rfl (Ev.step (fun k => clock_ParseWeeks.j1.eq_2 ..) ?_)
        by_cases hlt : a < next
        · rw [if_pos hlt]
          exact Ev.ifp (decide_eq_true hlt) (Ev.now _)
        · rw [if_neg hlt]
          refine Ev.ifn (by simpa using hlt) ?_
          have hw2 : wrap64 (b + 2) = b + 2 := w64_in (by omega) (by omega)
          have hout : Ev (fun k => clock_ParseWeeks.j2 k accI (wrap64 (b + 2)) fits a b (ps.map strOfNums) (ps.length : Int) (i : Int) true) (Q.pwkN (ps.drop (i + 1)) (b + 2) acc false) := by
            refine Ev.step (fun k => clock_ParseWeeks.j2.eq_2 ..) (Ev.ifp rfl ?_)
            rw [hw, hw2]
            exact ih (i + 1) accI acc (b + 2) false (by omega) (by omega) (by omega) (by omega) (fun h => by cases h)
          by_cases ha : a < 1
          · rw [if_pos (.inl ha)]
            exact Ev.ifp ha hout
          · refine Ev.ifn ha ?_
            by_cases hb : b > 20
            · rw [if_pos (.inr hb), decide_eq_true hb]
              exact hout
            · rw [if_neg (by omega), decide_eq_false hb]
              refine Ev.step (fun k => clock_ParseWeeks.j2.eq_2 ..) (Ev.ifn (by decide) ?_)
              rw [w64_in (x := a - 1) (by omega) (by omega), hw2]
              have hx : a - 1 = (((a - 1).toNat : Nat) : Int) := by omega
              rw [hx]
              refine or_loop fits (b + 2) b _ _ _ (by omega) (b - (a - 1)).toNat (a - 1).toNat accI (by omega) (fun acc' hacc => ?_)
              rw [hw, Int.toNat_natCast]
              have hp0 : 2 ^ (next - 2).toNat ≤ 2 ^ (a - 1).toNat := Nat.pow_le_pow_right (by decide) (by omega)
              have hp1 : 2 ^ (a - 1).toNat ≤ 2 ^ b.toNat := Nat.pow_le_pow_right (by decide) (by omega)
              refine ih (i + 1) acc' (acc + (2 ^ b.toNat - 2 ^ (a - 1).toNat)) (b + 2) fits (by omega) (by omega) (by omega) (by omega) (fun h => ?_)
              obtain ⟨f1, f2⟩ := hf h
              refine ⟨hacc acc f1 (by omega), ?_⟩
              rw [show (b + 2 - 2).toNat = b.toNat by omega]
              omega
    · exact hend i accI acc next fits (by omega) hf
theorem pieces_facts (s : ByteArray) (c : Int) (hs : s.size ≤ 200000) : (Q.piecesA c [] (bytesOf s)).length ≤ 1000000 ∧ (∀ p ∈ Q.piecesA c [] (bytesOf s), p.length ≤ 1000000) ∧ (∀ p ∈ Q.piecesA c [] (bytesOf s), Q.Bs p) := by
  have h1 := Q.piecesA_length c (bytesOf s) []
  have h2 := Q.piecesA_size c (bytesOf s) []
  rw [bytesOf_length] at h1 h2
  refine ⟨by omega, fun p hp => ?_, Q.piecesA_Bs c (bytesOf s) (bytes_Bs s) [] (fun _ h => by cases h)⟩
  have := h2 p hp
  simp only [List.length_nil] at this
  omega
theorem pwk_ev (s : ByteArray) (hs : s.size ≤ 200000) : Ev (fun k => clock_ParseWeeks.f k s) (pwkB s) := by
  obtain ⟨h1, h2, h3⟩ := pieces_facts s 44 hs
  unfold clock_ParseWeeks.f
  refine Ev.call (strsplit_ev s 44 (by omega)) ?_
  unfold cutB
  rw [List.length_map]
  exact pwk_loop (Q.piecesA 44 [] (bytesOf s)) h1 h2 h3 _ 0 0 0 0 true (by omega) (Nat.le_refl _) (by omega) (by omega) (fun _ => ⟨rfl, by decide⟩)
end Go.Proofs.YtnagecfpbkffpaaDoor.P
