/-! Words, as plain Lean: no program in sight. -/
namespace Go.Proofs.YtnnpolnpgghkgaaDoor.Q
def plainI (c : Int) : Bool := decide (97 ≤ c ∧ c ≤ 122) || decide (65 ≤ c ∧ c ≤ 90) || decide (48 ≤ c ∧ c ≤ 57) || decide (c = 46) || decide (c = 95) || decide (c = 58) || decide (c = 47) || decide (c = 43) || decide (c = 45) || decide (c = 44) || decide (c = 61)
def hexI (n : Int) : Int := if n < 10 then 48 + n else 87 + n
/-- a byte's word, as numbers -/
def word1 (c : Int) : List Int := if plainI c then [c] else [37, hexI (c / 16), hexI (c % 16)]
/-- the word of a text, as numbers -/
def quoteN : List Int → List Int
  | [] => [37]
  | c :: r => (c :: r).flatMap word1
def nums (l : List UInt8) : List Int := l.map fun b => (b.toNat : Int)
def bytes (l : List Int) : List UInt8 := l.map fun c => c.toNat.toUInt8
def quoteB (s : ByteArray) : ByteArray := ⟨(bytes (quoteN (nums s.data.toList))).toArray⟩
/-- of the first k bytes -/
def quoteAt (s : ByteArray) (k : Nat) : ByteArray := ⟨(bytes ((nums (s.data.toList.take k)).flatMap word1)).toArray⟩
def digits16 : ByteArray := ⟨#[48, 49, 50, 51, 52, 53, 54, 55, 56, 57, 97, 98, 99, 100, 101, 102]⟩

theorem word1_length (c : Int) : (word1 c).length ≤ 3 := by unfold word1; split <;> simp
theorem flat_length (l : List Int) : (l.flatMap word1).length ≤ 3 * l.length := by
  induction l with
  | nil => simp
  | cons c r ih => have := word1_length c; simp only [List.flatMap_cons, List.length_append, List.length_cons]; omega
theorem quoteAt_size (s : ByteArray) (k : Nat) : (quoteAt s k).size ≤ 3 * s.size := by
  have h := flat_length (nums (s.data.toList.take k))
  have h2 : (nums (s.data.toList.take k)).length ≤ s.size := by
    simp only [nums, List.length_map, List.length_take, Array.length_toList]
    exact Nat.min_le_right _ _
  show (bytes ((nums (s.data.toList.take k)).flatMap word1)).toArray.size ≤ _
  simp only [List.size_toArray, bytes, List.length_map]
  omega
theorem nums_take_succ (s : ByteArray) (k : Nat) (h : k < s.size) : nums (s.data.toList.take (k + 1)) = nums (s.data.toList.take k) ++ [((s[k]'h).toNat : Int)] := by
  have h2 : k < s.data.toList.length := by rw [Array.length_toList]; exact h
  rw [List.take_succ_eq_append_getElem h2]
  simp only [nums, List.map_append, List.map_cons, List.map_nil]
  rw [Array.getElem_toList]
  rfl
theorem quoteAt_succ (s : ByteArray) (k : Nat) (h : k < s.size) : quoteAt s (k + 1) = quoteAt s k ++ ⟨(bytes (word1 ((s[k]'h).toNat : Int))).toArray⟩ := by
  apply ByteArray.ext
  rw [ByteArray.data_append]
  simp only [quoteAt, nums_take_succ s k h, List.flatMap_append, List.flatMap_cons, List.flatMap_nil, List.append_nil, bytes, List.map_append]
  simp
theorem quoteAt_zero (s : ByteArray) : quoteAt s 0 = ⟨#[]⟩ := rfl
theorem quoteAt_full (s : ByteArray) (h : s.size ≠ 0) : quoteAt s s.size = quoteB s := by
  unfold quoteAt quoteB
  rw [List.take_of_length_le (by rw [Array.length_toList]; exact Nat.le_refl _)]
  have : nums s.data.toList ≠ [] := by
    intro h2
    apply h
    have h3 : (nums s.data.toList).length = 0 := by rw [h2]; rfl
    simpa [nums] using h3
  cases hn : nums s.data.toList with
  | nil => exact absurd hn this
  | cons c r => rfl
theorem digit_cut (m : Int) (h0 : 0 ≤ m) (h1 : m < 16) : (⟨#[48, 49, 50, 51, 52, 53, 54, 55, 56, 57, 97, 98, 99, 100, 101, 102]⟩ : ByteArray).extract m.toNat (m + 1).toNat = ⟨#[(hexI m).toNat.toUInt8]⟩ := by
  have h : ∀ i : Fin 16, digits16.extract i.1 (i.1 + 1) = ⟨#[(hexI (i.1 : Int)).toNat.toUInt8]⟩ := by decide
  have h2 := h ⟨m.toNat, by omega⟩
  have e1 : ((m.toNat : Nat) : Int) = m := by omega
  have e2 : (m + 1).toNat = m.toNat + 1 := by omega
  rw [e1] at h2
  rw [e2]
  exact h2
theorem one_cut (s : ByteArray) (k : Nat) (h : k < s.size) : s.extract k (k + 1) = ⟨#[s[k]'h]⟩ := by
  apply ByteArray.ext
  rw [ByteArray.data_extract]
  apply Array.ext
  · have : k < s.data.size := h
    simp; omega
  · intro i hi hj
    have : i = 0 := by simp at hj; omega
    subst this
    simp [ByteArray.getElem_eq_getElem_data]
theorem toUInt8_back (b : UInt8) : ((b.toNat : Int)).toNat.toUInt8 = b := by simp
theorem step_plain (s : ByteArray) (k : Nat) (h : k < s.size) (hp : plainI ((s[k]'h).toNat : Int) = true) : quoteAt s k ++ s.extract k (k + 1) = quoteAt s (k + 1) := by
  rw [quoteAt_succ s k h, one_cut s k h]
  unfold word1
  rw [if_pos hp]
  simp [bytes]
theorem step_other (s : ByteArray) (k : Nat) (h : k < s.size) (n : Int) (hn : ((s[k]'h).toNat : Int) = n) (hp : plainI n = false) :
    quoteAt s k ++ ⟨#[37]⟩ ++ (⟨#[48, 49, 50, 51, 52, 53, 54, 55, 56, 57, 97, 98, 99, 100, 101, 102]⟩ : ByteArray).extract (n / 16).toNat (n / 16 + 1).toNat ++ (⟨#[48, 49, 50, 51, 52, 53, 54, 55, 56, 57, 97, 98, 99, 100, 101, 102]⟩ : ByteArray).extract (n % 16).toNat (n % 16 + 1).toNat = quoteAt s (k + 1) := by
  have hb : (s[k]'h).toNat < 256 := (s[k]'h).toNat_lt
  rw [quoteAt_succ s k h, hn, digit_cut (n / 16) (by omega) (by omega), digit_cut (n % 16) (by omega) (by omega)]
  unfold word1
  rw [if_neg (by rw [hp]; simp)]
  apply ByteArray.ext
  apply Array.ext'
  simp [ByteArray.data_append, bytes]
end Go.Proofs.YtnnpolnpgghkgaaDoor.Q
