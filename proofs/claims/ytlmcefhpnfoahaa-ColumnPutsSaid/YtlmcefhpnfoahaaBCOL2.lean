/- Part 2 of what the laws of this chapter stand on: texts of this session, gathered. Condition: none beside those that each theorem states. -/
import Derived.Laws.EntriesVeiled
import Derived.JoinedOf
import Derived.KernelRfl
import Derived.Test.YtlmcefhpnfoahaaRows
import Derived.Test.YtlmcefhpnfoahaaBCOL1
section
namespace Go.Proofs.Ytlmcefhpnfoahaa.P
open Go.RowKit Go.Proofs.YtlmcefhpnfoahaaW.PrintWords Go.Proofs.YtlmcefhpnfoahaaW.PrintLast Go.Proofs.YtlmcefhpnfoahaaW.PrintMore
set_option linter.unusedVariables false
set_option linter.unusedSimpArgs false

theorem uw (m : Int) : IntKind.u64.wrap m = m % 18446744073709551616 := rfl
/-- What the first i bytes, all of which go on, and the rest tell. -/
def joinV (i : Nat) (x : Int) (p : Int × Int × Int) : Int × Int × Int := if p.2.2 = 0 then (x + 128 ^ i * p.1, (i : Int) + p.2.1, 0) else (0, 0, p.2.2)
theorem joinV_zero (p : Int × Int × Int) (h : p.2.2 ≠ 0 → p = (0, 0, p.2.2)) : joinV 0 0 p = p := by
  unfold joinV
  split
  · rename_i h0
    obtain ⟨a, b, c⟩ := p
    simp at h0
    subst h0
    simp
  · rename_i h0
    exact (h h0).symm
theorem vg_err' (k : Nat) (l : List Int) (h : (vg k l).2.2 ≠ 0) : vg k l = (0, 0, (vg k l).2.2) := by
  rcases vg_err k l h with e | e <;> rw [e]
theorem vg0_one (c : Int) (r : List Int) (h : c = 1) : vg 0 (c :: r) = (1, 1, 0) := by unfold vg; rw [if_pos h]
theorem vg0_bad (c : Int) (r : List Int) (h : ¬ c = 1) : vg 0 (c :: r) = (0, 0, 21) := by unfold vg; rw [if_neg h]
theorem joinV_step (i k : Nat) (x c : Int) (r : List Int) (hc : ¬ c < 128) : joinV i x (vg (k + 1) (c :: r)) = joinV (i + 1) (x + c % 128 * 128 ^ i) (vg k r) := by
  unfold joinV
  conv => lhs; unfold vg
  rw [if_neg hc]
  by_cases h : (vg k r).2.2 = 0
  · simp only [h, if_true]
    rw [Int.pow_succ]
    congr 1
    · have e : (128 : Int) ^ i * (c % 128 + 128 * (vg k r).1) = c % 128 * 128 ^ i + 128 ^ i * 128 * (vg k r).1 := by
        rw [Int.mul_add, Int.mul_comm (128 ^ i) (c % 128), Int.mul_assoc]
      rw [e, Int.add_assoc]
    · congr 1; omega
  · simp only [h, if_false]
theorem and127 (c : Int) (h0 : 0 ≤ c) (h1 : c ≤ 255) : Go.bits .and .u8 c 127 = c % 128 := by
  have h : ∀ c : Nat, c < 256 → Go.bits .and .u8 (c : Int) 127 = (c : Int) % 128 := by decide +kernel
  have h2 := h c.toNat (by omega)
  rw [Int.toNat_of_nonneg h0] at h2
  exact h2
theorem pow128_two (i : Nat) : (128 : Int) ^ i = 2 ^ (7 * i) := by
  rw [show (128 : Int) = 2 ^ 7 from rfl, ← Int.pow_mul]
theorem pow128_le (i : Nat) (h : i ≤ 8) : (128 : Int) ^ (i + 1) ≤ 9223372036854775808 := by
  have : i = 0 ∨ i = 1 ∨ i = 2 ∨ i = 3 ∨ i = 4 ∨ i = 5 ∨ i = 6 ∨ i = 7 ∨ i = 8 := by omega
  rcases this with rfl | rfl | rfl | rfl | rfl | rfl | rfl | rfl | rfl <;> decide
/-- One byte more on top. -/
theorem or_at (i : Nat) (x v : Int) (h0 : 0 ≤ x) (h1 : x < 128 ^ i) (v0 : 0 ≤ v) (hv : v * 128 ^ i + x < 18446744073709551616) (hi : i ≤ 9) : Go.bits .or .u64 x (shl .u64 (IntKind.u64.wrap v) (wrap64 (7 * (i : Int)))) = x + v * 128 ^ i := by
  have hp := pow128 i
  have hv2 : v ≤ v * 128 ^ i := by
    have := Int.mul_le_mul_of_nonneg_left (show (1 : Int) ≤ 128 ^ i by omega) v0
    omega
  have e1 : wrap64 (7 * (i : Int)) = ((7 * i : Nat) : Int) := by unfold wrap64; omega
  have e2 : shl .u64 (IntKind.u64.wrap v) (wrap64 (7 * (i : Int))) = v * 128 ^ i := by
    unfold shl
    rw [e1, Int.toNat_natCast, show IntKind.u64.bits = 64 from rfl, Nat.min_eq_left (by omega), ← pow128_two, uw, uw, Int.emod_eq_of_lt v0 (by omega)]
    have hm : 0 ≤ v * 128 ^ i := Int.mul_nonneg v0 (by omega)
    rw [Int.emod_eq_of_lt hm (by omega)]
  have hm : 0 ≤ v * 128 ^ i := Int.mul_nonneg v0 (by omega)
  rw [e2, u64_or x _ h0 (by omega) hm (by omega)]
  have e3 : x.toNat ||| (v * 128 ^ i).toNat = x.toNat + (v * 128 ^ i).toNat := by
    have e4 : (v * 128 ^ i).toNat = 2 ^ (7 * i) * v.toNat := by
      rw [pow128_two, Int.toNat_mul v0 (by rw [← pow128_two]; omega), Nat.mul_comm]
      rw [show ((2 : Int) ^ (7 * i)) = ((2 ^ (7 * i) : Nat) : Int) by simp, Int.toNat_natCast]
    have e5 : x.toNat < 2 ^ (7 * i) := by
      have : ((2 ^ (7 * i) : Nat) : Int) = 128 ^ i := by rw [pow128_two]; simp
      omega
    rw [e4, Nat.or_comm, Nat.add_comm]
    exact (Nat.two_pow_add_eq_or_of_lt e5 v.toNat).symm
  rw [e3]
  omega
theorem get_l0 (l : List Int) (hl : l.length ≤ 1000000) (hb : ∀ x ∈ l, isByte x = true) : ∀ (d k i : Nat) (x : Int), i + d = 9 → 2 * d + 3 ≤ k → i ≤ l.length → 0 ≤ x → x < 128 ^ i → varint_Get.l0 k l x i = some (joinV i x (vg d (l.drop i))) := by
  intro d
  induction d with
  | zero =>
    intro k i x hi hk hil h0 h1
    obtain rfl : i = 9 := by omega
    obtain ⟨k, rfl⟩ : ∃ j, k = j + 1 + 1 := ⟨k - 2, by omega⟩
    unfold varint_Get.l0
    (try dsimp only)
    rw [if_pos (by decide)]
    by_cases he : l.length = 9
    · rw [if_pos (by omega), List.drop_of_length_le (by omega)]
      rfl
    · rw [if_neg (by omega), if_pos (by decide), if_pos (by omega), if_pos (by decide)]
      have hlt : 9 < l.length := by omega
      have er : rd l ((9 : Nat) : Int) = l[9] := by simp [rd, List.getD_eq_getElem?_getD, List.getElem?_eq_getElem hlt]
      have er' : rd l 9 = l[9] := er
      rw [List.drop_eq_getElem_cons hlt, er]
      have hc := rd_isByte hb 9 hlt
      rw [er] at hc
      unfold varint_Get.j1
      (try dsimp only)
      by_cases h2 : l[9] > 1
      · rw [if_pos (by simpa using h2)]
        rw [vg0_bad _ _ (by omega)]
        rfl
      · rw [if_neg (by simpa using h2), if_pos (by unfold wrap64; omega), if_pos (by omega)]
        by_cases h3 : l[9] = 0
        · rw [if_pos h3, if_pos (by decide)]
          rw [vg0_bad _ _ (by omega)]
          rfl
        · have h4 : l[9] = 1 := by omega
          rw [if_neg h3, and127 _ hc.1 hc.2, h4]
          have e := or_at 9 x 1 h0 h1 (by decide) (by
            have e9 : (128 : Int) ^ 9 = 9223372036854775808 := by decide
            omega) (by decide)
          rw [show (1 : Int) % 128 = 1 from rfl, e, vg0_one _ _ rfl, show wrap64 (((9 : Nat) : Int) + 1) = ((9 : Nat) : Int) + 1 by unfold wrap64; omega, Int.mul_comm]
          rfl
  | succ d ih =>
    intro k i x hi hk hil h0 h1
    obtain ⟨k, rfl⟩ : ∃ j, k = j + 1 + 1 := ⟨k - 2, by omega⟩
    unfold varint_Get.l0
    (try dsimp only)
    rw [if_pos (by omega)]
    by_cases he : l.length = i
    · rw [if_pos (by omega), List.drop_of_length_le (by omega)]
      rfl
    · have hlt : i < l.length := by omega
      rw [if_neg (by omega), if_pos (by omega), if_pos (by omega), if_neg (by omega)]
      have er : rd l (i : Int) = l[i] := by simp [rd, List.getD_eq_getElem?_getD, List.getElem?_eq_getElem hlt]
      have hc := rd_isByte hb i hlt
      rw [List.drop_eq_getElem_cons hlt, er]
      rw [er] at hc
      have ew : wrap64 (7 * (i : Int)) = 7 * (i : Int) := by unfold wrap64; omega
      have ew2 : wrap64 ((i : Int) + 1) = ((i + 1 : Nat) : Int) := w64s i (by omega)
      have hp := pow128 i
      have hple := pow128_le i (by omega)
      have hcm : l[i] % 128 * 128 ^ i ≤ 127 * 128 ^ i := Int.mul_le_mul_of_nonneg_right (by omega) (by omega)
      have hcm0 : 0 ≤ l[i] % 128 * 128 ^ i := Int.mul_nonneg (by omega) (by omega)
      rw [Int.pow_succ] at hple
      have eo := or_at i x (l[i] % 128) h0 h1 (by omega) (by omega) (by omega)
      unfold varint_Get.j1
      (try dsimp only)
      rw [if_neg (by decide), if_pos (by rw [ew]; omega), and127 _ hc.1 hc.2, eo, ew2]
      by_cases h7 : l[i] < 128
      · rw [if_pos h7]
        have em : l[i] % 128 = l[i] := by omega
        have hfin : (l[i] ≠ 0 ∨ i = 0) → joinV i x (vg (d + 1) (l[i] :: l.drop (i + 1))) = (x + l[i] % 128 * 128 ^ i, ((i + 1 : Nat) : Int), 0) := by
          intro hz
          have ev : vg (d + 1) (l[i] :: l.drop (i + 1)) = (l[i], 1, 0) := by
            unfold vg
            rw [if_pos h7, if_neg (by omega)]
          unfold joinV
          rw [ev, em, Int.mul_comm]
          rfl
        by_cases hz : l[i] = 0
        · rw [if_pos hz]
          by_cases hi0 : (i : Int) > 0
          · rw [if_pos hi0]
            have ev : vg (d + 1) (l[i] :: l.drop (i + 1)) = (0, 0, 21) := by
              unfold vg
              rw [if_pos h7, if_pos ⟨hz, by omega⟩]
            unfold joinV
            rw [ev]
            rfl
          · rw [if_neg hi0, hfin (Or.inr (by omega))]
        · rw [if_neg hz, hfin (Or.inl hz)]
      · rw [if_neg h7, joinV_step i d x _ _ h7]
        exact ih k (i + 1) _ (by omega) (by omega) (by omega) (by omega) (by rw [Int.pow_succ]; omega)
theorem get_f (l : List Int) (hl : l.length ≤ 1000000) (hb : ∀ x ∈ l, isByte x = true) : varint_Get.f 21 l = some (vget l) := by
  have := get_l0 l hl hb 9 21 0 0 rfl (by decide) (Nat.zero_le _) (by decide) (by decide)
  unfold varint_Get.f vget
  rw [List.drop_zero, joinV_zero _ (vg_err' 9 l)] at this
  exact this
theorem vget_range (l : List Int) (hb : ∀ x ∈ l, isByte x = true) : 0 ≤ (vget l).1 ∧ (vget l).1 ≤ 18446744073709551615 ∧ 0 ≤ (vget l).2.1 ∧ (vget l).2.1 ≤ l.length := by
  by_cases h : (vget l).2.2 = 0
  · obtain ⟨r, g1, g2, g3, g4⟩ := vput_vget l hb h
    have hl : l.length = (vput 9 (vget l).1).length + r.length := by rw [← List.length_append, ← g1]
    omega
  · have e := vg_err' 9 l h
    have e' : vget l = (0, 0, (vget l).2.2) := e
    rw [e']
    simp
theorem xor_zero_i64 (x : Int) (h0 : 0 ≤ x) (h1 : x ≤ 9223372036854775807) : Go.bits .xor .i64 x 0 = x := by
  unfold Go.bits
  have e1 : BitVec.ofInt IntKind.i64.bits 0 = 0#IntKind.i64.bits := by rfl
  have e2 : (BitVec.ofInt IntKind.i64.bits x).toNat = x.toNat := by
    rw [BitVec.toNat_ofInt]
    show (x % 18446744073709551616).toNat = _
    rw [Int.emod_eq_of_lt h0 (by omega)]
  dsimp only
  rw [e1, BitVec.xor_zero, e2]
  rw [i64_w, Int.toNat_of_nonneg h0]
  unfold wrap64
  omega
theorem xor_ones_i64 (x : Int) (h0 : 0 ≤ x) (h1 : x ≤ 9223372036854775807) : Go.bits .xor .i64 x (-1) = -x - 1 := by
  unfold Go.bits
  have e1 : BitVec.ofInt IntKind.i64.bits (-1) = BitVec.allOnes IntKind.i64.bits := by rfl
  have e2 : (BitVec.ofInt IntKind.i64.bits x).toNat = x.toNat := by
    rw [BitVec.toNat_ofInt]
    show (x % 18446744073709551616).toNat = _
    rw [Int.emod_eq_of_lt h0 (by omega)]
  dsimp only
  rw [e1, BitVec.xor_allOnes, BitVec.toNat_not, e2]
  rw [i64_w, show (2 ^ IntKind.i64.bits - 1 - x.toNat : Nat) = 18446744073709551615 - x.toNat from rfl]
  unfold wrap64
  omega
theorem zag_f (u : Int) (h0 : 0 ≤ u) (h1 : u ≤ 18446744073709551615) : varint_Zag.f u = some (zag u) := by
  unfold varint_Zag.f
  have ha : Go.bits .and .u64 u 1 = u % 2 := by
    rw [u64_and u 1 h0 (by omega) (by decide) (by decide)]
    have : u.toNat &&& (1 : Int).toNat = u.toNat % 2 := Nat.and_one_is_mod _
    rw [this]
    omega
  rw [ha]
  congr 1
  unfold zag
  by_cases h2 : u % 2 = 0
  · rw [if_pos h2, h2]
    have e1 : wrap64 (u / 2) = u / 2 := by unfold wrap64; omega
    rw [e1, show wrap64 (-(wrap64 0)) = 0 by unfold wrap64; omega, xor_zero_i64 _ (by omega) (by omega)]
  · have h3 : u % 2 = 1 := by omega
    rw [if_neg h2, h3]
    have e1 : wrap64 (u / 2) = u / 2 := by unfold wrap64; omega
    rw [e1, show wrap64 (-(wrap64 1)) = -1 by unfold wrap64; omega, xor_ones_i64 _ (by omega) (by omega)]
/-- The first i bytes' number. -/
def low (l : List Int) : Nat → Int
  | 0 => 0
  | i + 1 => low l i + rd l i % 128 * 128 ^ i
theorem low_range (l : List Int) : ∀ i, 0 ≤ low l i ∧ low l i < 128 ^ i := by
  intro i
  induction i with
  | zero => exact ⟨Int.le_refl _, by simp [low]⟩
  | succ i ih =>
    have hp := pow128 i
    have h1 : rd l i % 128 * 128 ^ i ≤ 127 * 128 ^ i := Int.mul_le_mul_of_nonneg_right (by omega) (by omega)
    have h2 : 0 ≤ rd l i % 128 * 128 ^ i := Int.mul_nonneg (by omega) (by omega)
    unfold low
    rw [Int.pow_succ]
    omega
/-- Up to byte i all go on. -/
theorem vg_low (l : List Int) : ∀ (i d : Nat), i + d = 9 → i ≤ l.length → (∀ j, j < i → ¬ rd l j < 128) → vg 9 l = joinV i (low l i) (vg d (l.drop i)) := by
  intro i
  induction i with
  | zero =>
    intro d hd _ _
    obtain rfl : d = 9 := by omega
    rw [List.drop_zero]
    exact (joinV_zero _ (vg_err' 9 l)).symm
  | succ i ih =>
    intro d hd hl h
    have hlt : i < l.length := by omega
    have er : rd l (i : Int) = l[i] := by simp [rd, List.getD_eq_getElem?_getD, List.getElem?_eq_getElem hlt]
    rw [ih (d + 1) (by omega) (by omega) (fun j hj => h j (by omega)), List.drop_eq_getElem_cons hlt, joinV_step i d _ _ _ (by rw [← er]; exact h i (by omega)), ← er]
    rfl
theorem tmod128 (x : Int) (h : 0 ≤ x) : Int.tmod x 128 = x % 128 := Int.tmod_eq_emod_of_nonneg h
/-- The bytes' number, out of the highest. -/
theorem ref_l1 (l : List Int) (hb : ∀ x ∈ l, isByte x = true) (hl : l.length ≤ 1000000) (n : Int) (N : Nat) (hN : N ≤ l.length) (hT : low l N ≤ 18446744073709551615) : ∀ (i k : Nat) (x : Int), i < k → i ≤ N → 0 ≤ x → x * 128 ^ i + low l i = low l N → tidelineref02_Get.l1 k l n x ((i : Int) - 1) = some (low l N, wrap64 (n + 1), 0) := by
  intro i
  induction i with
  | zero =>
    intro k x hk _ _ h
    obtain ⟨k, rfl⟩ : ∃ j, k = j + 1 := ⟨k - 1, by omega⟩
    unfold tidelineref02_Get.l1
    rw [if_neg (by decide)]
    simp [low] at h
    rw [h]
  | succ i ih =>
    intro k x hk hi h0 h
    obtain ⟨k, rfl⟩ : ∃ j, k = j + 1 := ⟨k - 1, by omega⟩
    have hlt : i < l.length := by omega
    have hc := rd_isByte hb i hlt
    have hp := pow128 i
    have hlo := low_range l i
    have e1 : ((i + 1 : Nat) : Int) - 1 = (i : Int) := by omega
    have e2 : wrap64 ((i : Int) - 1) = (i : Int) - 1 := by unfold wrap64; omega
    have e3 : (x * 128 + rd l i % 128) * 128 ^ i + low l i = low l N := by
      rw [← h]
      conv => rhs; unfold low
      rw [Int.add_mul, Int.pow_succ, Int.mul_assoc, Int.mul_comm (128 ^ i) 128]
      omega
    have e4 : x * 128 + rd l i % 128 ≤ low l N := by
      have := Int.mul_le_mul_of_nonneg_left (show (1 : Int) ≤ 128 ^ i by omega) (show 0 ≤ x * 128 + rd l i % 128 by omega)
      omega
    unfold tidelineref02_Get.l1
    rw [e1, if_pos (by omega), if_pos (by omega), if_pos (by omega), tmod128 _ hc.1, uw, uw, uw, e2]
    have e5 : ((x * 128) % 18446744073709551616 + rd l i % 128 % 18446744073709551616) % 18446744073709551616 = x * 128 + rd l i % 128 := by omega
    rw [e5]
    exact ih k _ (by omega) (by omega) (by omega) e3
theorem ref_j1 (l : List Int) (hl : l.length ≤ 1000000) (hb : ∀ x ∈ l, isByte x = true) (i k : Nat) (hi : i ≤ 10) (hil : i ≤ l.length) (h : ∀ j, j < i → ¬ rd l j < 128) (hs : i = l.length ∨ i = 10 ∨ rd l i < 128) (hk : 20 ≤ k) : tidelineref02_Get.j1 k l i = some (vg 9 l) := by
  obtain ⟨k, rfl⟩ : ∃ j, k = j + 1 + 1 + 1 := ⟨k - 3, by omega⟩
  by_cases h10 : i = 10
  · subst h10
    have hv : vg 9 l = (0, 0, 21) := by
      rw [vg_low l 9 0 rfl (by omega) (fun j hj => h j (by omega))]
      have hlt : 9 < l.length := by omega
      have er : rd l ((9 : Nat) : Int) = l[9] := by simp [rd, List.getD_eq_getElem?_getD, List.getElem?_eq_getElem hlt]
      have h9 := h 9 (by decide)
      rw [er] at h9
      rw [List.drop_eq_getElem_cons hlt]
      rw [vg0_bad _ _ (by omega)]
      rfl
    rw [hv]
    have e10 : ((10 : Nat) : Int) = 10 := rfl
    rw [e10]
    by_cases he : (10 : Int) = (l.length : Int)
    · rw [tidelineref02_Get.j1, if_pos he, tidelineref02_Get.j2, if_neg (by decide), if_pos rfl, tidelineref02_Get.j3, if_pos rfl]
    · rw [tidelineref02_Get.j1, if_neg he, tidelineref02_Get.j2, if_neg (by decide), if_pos rfl, tidelineref02_Get.j3, if_pos rfl]
  have hv := vg_low l i (9 - i) (by omega) hil h
  by_cases he : i = l.length
  · have e20 : vg 9 l = (0, 0, 20) := by
      rw [hv, List.drop_of_length_le (by omega)]
      cases 9 - i <;> rfl
    rw [e20]
    rw [tidelineref02_Get.j1, if_pos (by omega), tidelineref02_Get.j2, if_pos (by simp; omega)]
  have hlt : i < l.length := by omega
  have hc : rd l i < 128 := by rcases hs with h | h | h <;> first | exact absurd h (by assumption) | exact h
  have er : rd l (i : Int) = l[i] := by simp [rd, List.getD_eq_getElem?_getD, List.getElem?_eq_getElem hlt]
  have hc0 := (rd_isByte hb i hlt).1
  have hp := pow128 i
  have hlo := low_range l i
  rw [List.drop_eq_getElem_cons hlt, ← er] at hv
  -- the value
  have hval : ∀ q : Bool, q = false → (low l (i + 1) ≤ 18446744073709551615) → tidelineref02_Get.j3 (k + 1) l i q = some (low l (i + 1), ((i + 1 : Nat) : Int), 0) := by
    intro q hq hT
    subst hq
    rw [tidelineref02_Get.j3, if_neg (by decide)]
    have := ref_l1 l hb hl i (i + 1) (by omega) hT (i + 1) k 0 (by omega) (Nat.le_refl _) (by decide) (by simp)
    rw [show ((i + 1 : Nat) : Int) - 1 = (i : Int) by omega] at this
    rw [this, w64s i (by omega)]
  have hbad : ∀ q : Bool, q = true → tidelineref02_Get.j3 (k + 1) l i q = some (0, 0, 21) := by
    intro q hq
    subst hq
    rw [tidelineref02_Get.j3, if_pos rfl]
  rw [tidelineref02_Get.j1, if_neg (by omega), tidelineref02_Get.j2, if_neg (by decide), if_neg (by omega)]
  by_cases h9 : i = 9
  · subst h9
    rw [if_pos (by decide), if_pos (by omega)]
    have er9 : rd l 9 = rd l ((9 : Nat) : Int) := rfl
    rw [er9]
    have e99 : (128 : Int) ^ 9 = 9223372036854775808 := by decide
    by_cases h1 : rd l ((9 : Nat) : Int) > 1
    · rw [if_pos h1, hbad _ rfl, hv, vg0_bad _ _ (by omega)]
      rfl
    · rw [if_neg h1, if_pos (by decide), if_pos (by decide), if_pos (by omega)]
      by_cases h0 : rd l ((9 : Nat) : Int) = 0
      · rw [hbad _ (by simpa using h0), hv, vg0_bad _ _ (by omega)]
        rfl
      · have h11 : rd l ((9 : Nat) : Int) = 1 := by omega
        have hT : low l 10 = low l 9 + 9223372036854775808 := by
          conv => lhs; unfold low
          rw [h11, e99]
          rfl
        rw [hval _ (by simpa using h0) (by show low l 10 ≤ _; rw [hT]; omega), hv]
        rw [vg0_one _ _ h11]
        show some (low l 10, _, _) = some (low l 9 + 128 ^ 9 * 1, _, _)
        rw [hT, e99]
        rfl
  · have hd : ∃ d, 9 - i = d + 1 := ⟨8 - i, by omega⟩
    obtain ⟨d, hd⟩ := hd
    rw [hd] at hv
    rw [if_neg (by omega)]
    have hT : low l (i + 1) = low l i + 128 ^ i * rd l i := by
      conv => lhs; unfold low
      rw [show rd l i % 128 = rd l i by omega, Int.mul_comm]
    have hT2 : low l (i + 1) ≤ 18446744073709551615 := by
      have h1 := (low_range l (i + 1)).2
      have := pow128_le i (by omega)
      omega
    have hok : (rd l i ≠ 0 ∨ i = 0) → vg 9 l = (low l (i + 1), ((i + 1 : Nat) : Int), 0) := by
      intro hz
      have ev : vg (d + 1) (rd l (i : Int) :: l.drop (i + 1)) = (rd l i, 1, 0) := by
        unfold vg
        rw [if_pos hc, if_neg (by omega)]
      rw [hv, ev, hT]
      rfl
    by_cases hi0 : i = 0
    · subst hi0
      rw [if_neg (by decide), hval _ rfl hT2, hok (Or.inr rfl)]
    · rw [if_pos (by omega), if_pos (by omega), if_pos (by omega)]
      by_cases h0 : rd l (i : Int) = 0
      · have ev : vg (d + 1) (rd l (i : Int) :: l.drop (i + 1)) = (0, 0, 21) := by
          unfold vg
          rw [if_pos hc, if_pos ⟨h0, by omega⟩]
        rw [hbad _ (by simpa using h0), hv, ev]
        rfl
      · rw [hval _ (by simpa using h0) hT2, hok (Or.inl h0)]
theorem ref_l0 (l : List Int) (hl : l.length ≤ 1000000) (hb : ∀ x ∈ l, isByte x = true) : ∀ (d k i : Nat), i + d = 10 → d + 21 ≤ k → i ≤ l.length → (∀ j, j < i → ¬ rd l j < 128) → tidelineref02_Get.l0 k l i = some (vg 9 l) := by
  intro d
  induction d with
  | zero =>
    intro k i hi hk hil h
    obtain rfl : i = 10 := by omega
    obtain ⟨k, rfl⟩ : ∃ j, k = j + 1 := ⟨k - 1, by omega⟩
    unfold tidelineref02_Get.l0
    by_cases hlt : ((10 : Nat) : Int) < (l.length : Int)
    · rw [if_pos hlt, if_neg (by decide)]
      exact ref_j1 l hl hb 10 k (by decide) hil h (Or.inr (Or.inl rfl)) (by omega)
    · rw [if_neg hlt]
      exact ref_j1 l hl hb 10 k (by decide) hil h (Or.inr (Or.inl rfl)) (by omega)
  | succ d ih =>
    intro k i hi hk hil h
    obtain ⟨k, rfl⟩ : ∃ j, k = j + 1 := ⟨k - 1, by omega⟩
    unfold tidelineref02_Get.l0
    by_cases hlt : (i : Int) < (l.length : Int)
    · rw [if_pos hlt, if_pos (by omega), if_pos (by omega)]
      by_cases hc : rd l i ≥ 128
      · rw [if_pos hc, w64s i (by omega)]
        refine ih k (i + 1) (by omega) (by omega) (by omega) (fun j hj => ?_)
        by_cases hji : j = i
        · subst hji; omega
        · exact h j (by omega)
      · rw [if_neg hc]
        exact ref_j1 l hl hb i k (by omega) hil h (Or.inr (Or.inr (by omega))) (by omega)
    · rw [if_neg hlt]
      exact ref_j1 l hl hb i k (by omega) hil h (Or.inl (by omega)) (by omega)
theorem refGet_f (l : List Int) (hl : l.length ≤ 1000000) (hb : ∀ x ∈ l, isByte x = true) : tidelineref02_Get.f 31 l = some (vget l) := by
  unfold tidelineref02_Get.f
  exact ref_l0 l hl hb 10 31 0 rfl (by decide) (Nat.zero_le _) (by intro j hj; omega)
theorem refPut_l0 : ∀ (j k : Nat) (v : Int) (out : List Int), j < k → 0 ≤ v → v < 128 ^ (j + 1) → v ≤ 18446744073709551615 → out.length + j ≤ 1000000000 → tidelineref02_Put.l0 k v out = some (out ++ vput j v) := by
  intro j
  induction j with
  | zero =>
    intro k v out hk h0 h1 h2 ho
    obtain ⟨k, rfl⟩ : ∃ j, k = j + 1 := ⟨k - 1, by omega⟩
    have h1' : v < 128 := by simpa using h1
    unfold tidelineref02_Put.l0
    rw [tmod128 v h0, Int.tdiv_eq_ediv_of_nonneg h0, uw]
    have e1 : v / 128 % 18446744073709551616 = 0 := by omega
    have e2 : v % 128 % 256 = v := by omega
    rw [if_pos e1, if_pos (by omega), e2]
    rfl
  | succ j ih =>
    intro k v out hk h0 h1 h2 ho
    obtain ⟨k, rfl⟩ : ∃ j, k = j + 1 := ⟨k - 1, by omega⟩
    unfold tidelineref02_Put.l0 vput
    rw [tmod128 v h0, Int.tdiv_eq_ediv_of_nonneg h0, uw]
    have e1 : v / 128 % 18446744073709551616 = v / 128 := by omega
    rw [e1]
    by_cases hv : v ≥ 128
    · rw [if_neg (by omega), if_pos (by omega), if_pos hv]
      have e2 : (v % 128 + 128) % 256 = v % 128 + 128 := by omega
      have hd : v / 128 < 128 ^ (j + 1) := by
        rw [Int.pow_succ] at h1
        generalize (128 : Int) ^ (j + 1) = P at *
        omega
      rw [e2, ih k (v / 128) _ (by omega) (by omega) hd (by omega) (by simp; omega)]
      simp
    · have e2 : v % 128 % 256 = v := by omega
      rw [if_pos (by omega), if_pos (by omega), if_neg hv, e2]
theorem refPut_f (v : Int) (h0 : 0 ≤ v) (h1 : v ≤ 18446744073709551615) : tidelineref02_Put.f 10 v = some (vput 9 v) := by
  unfold tidelineref02_Put.f
  have := refPut_l0 9 10 v [] (by decide) h0 (by
    have : (128 : Int) ^ (9 + 1) = 1180591620717411303424 := by decide
    omega) h1 (by simp)
  simpa using this
theorem refZig_f (n : Int) (h1 : -9223372036854775808 ≤ n) (h2 : n ≤ 9223372036854775807) : tidelineref02_Zig.f n = some (zig n) := by
  unfold tidelineref02_Zig.f zig
  by_cases h0 : 0 ≤ n
  · rw [if_pos h0, if_pos h0, uw, uw]
    congr 1; omega
  · rw [if_neg h0, if_neg h0]
    have e1 : wrap64 (n + 1) = n + 1 := by unfold wrap64; omega
    have e2 : wrap64 (-(n + 1)) = -(n + 1) := by unfold wrap64; omega
    rw [e1, e2, uw, uw, uw]
    congr 1; omega
theorem refZag_f (u : Int) (h0 : 0 ≤ u) (h1 : u ≤ 18446744073709551615) : tidelineref02_Zag.f u = some (zag u) := by
  unfold tidelineref02_Zag.f zag
  rw [Int.tmod_eq_emod_of_nonneg h0, Int.tdiv_eq_ediv_of_nonneg h0, uw]
  have e0 : u / 2 % 18446744073709551616 = u / 2 := by omega
  have e1 : wrap64 (u / 2) = u / 2 := by unfold wrap64; omega
  rw [e0, e1]
  by_cases h2 : u % 2 = 0
  · rw [if_pos h2, if_pos h2]
  · rw [if_neg h2, if_neg h2]
    have e2 : wrap64 (-(u / 2)) = -(u / 2) := by unfold wrap64; omega
    have e3 : wrap64 (-(u / 2) - 1) = -(u / 2) - 1 := by unfold wrap64; omega
    rw [e2, e3]
end Go.Proofs.Ytlmcefhpnfoahaa.P
end

section
namespace Go.Proofs.Ytlmcefhpnfoahaa.P
open Go.RowKit Go.Proofs.YtlmcefhpnfoahaaW.PrintWords Go.Proofs.YtlmcefhpnfoahaaW.PrintLast Go.Proofs.YtlmcefhpnfoahaaW.PrintMore
set_option linter.unusedVariables false
set_option linter.unusedSimpArgs false

theorem get_k (k : Nat) (hk : 21 ≤ k) (l : List Int) (hl : l.length ≤ 1000000) (hb : ∀ x ∈ l, isByte x = true) : varint_Get.f k l = some (vget l) :=
  leO_le (g := fun k => varint_Get.f k l) (fun k => varint_Get.mono _ _) hk (get_f l hl hb)
/-- d numbers more at one change. -/
def itr : Nat → Int → Int → Int → List Int × Int × Int
  | 0, last, step, _ => ([], last, step)
  | d + 1, last, step, c => (wrap64 (last + wrap64 (step + c)) :: (itr d (wrap64 (last + wrap64 (step + c))) (wrap64 (step + c)) c).1, (itr d (wrap64 (last + wrap64 (step + c))) (wrap64 (step + c)) c).2)
theorem itr_len : ∀ (d : Nat) (last step c : Int), (itr d last step c).1.length = d := by
  intro d
  induction d with
  | zero => intro _ _ _; rfl
  | succ d ih => intro last step c; unfold itr; simp [ih]
theorem sums_itr (c : Int) (q : List Int) : ∀ (d : Nat) (last step : Int), sums last step (List.replicate d c ++ q) = (itr d last step c).1 ++ sums (itr d last step c).2.1 (itr d last step c).2.2 q := by
  intro d
  induction d with
  | zero => intro _ _; rfl
  | succ d ih =>
    intro last step
    rw [List.replicate_succ, List.cons_append]
    have e1 : ∀ r, sums last step (c :: r) = wrap64 (last + wrap64 (step + c)) :: sums (wrap64 (last + wrap64 (step + c))) (wrap64 (step + c)) r := fun _ => rfl
    have e2 : itr (d + 1) last step c = (wrap64 (last + wrap64 (step + c)) :: (itr d (wrap64 (last + wrap64 (step + c))) (wrap64 (step + c)) c).1, (itr d (wrap64 (last + wrap64 (step + c))) (wrap64 (step + c)) c).2) := rfl
    rw [e1, e2, ih]
    rfl
theorem intsGet_l1 (b : List Int) (n c : Int) (m : Nat) (hm : m ≤ 1000000) : ∀ (d k : Nat) (X : List Int) (last step : Int), d ≤ m → X.length + d ≤ 2000000 →
    ints_Get.l1 (k + d + 1) b n X last step c (m : Int) ((m - d : Nat) : Int) = ints_Get.l0 k b n (X ++ (itr d last step c).1) (itr d last step c).2.1 (itr d last step c).2.2 c := by
  intro d
  induction d with
  | zero =>
    intro k X last step hd hX
    rw [ints_Get.l1, if_neg (by omega)]
    simp [itr]
  | succ d ih =>
    intro k X last step hd hX
    rw [ints_Get.l1, if_pos (by omega), if_pos (by omega)]
    have e : IntKind.u64.wrap (((m - (d + 1) : Nat) : Int) + 1) = ((m - d : Nat) : Int) := by
      show (((m - (d + 1) : Nat) : Int) + 1) % 18446744073709551616 = _
      omega
    rw [e, show k + (d + 1) = k + d + 1 by omega, ih k _ _ _ (by omega) (by simp; omega)]
    simp [itr]
theorem intsGet_l0 (n : Nat) (hn : n ≤ 65536) : ∀ (f need k : Nat) (b X : List Int) (last step change : Int), need ≤ f → X.length + need = n → 4 * need + 30 ≤ k → b.length ≤ 1000000 → (∀ x ∈ b, isByte x = true) →
    ints_Get.l0 k b (n : Int) X last step change = some (if (getRuns f need (if X = [] then none else some change) b).2 = 0 then (X ++ sums last step (getRuns f need (if X = [] then none else some change) b).1, 0) else ([], (getRuns f need (if X = [] then none else some change) b).2)) := by
  intro f
  induction f with
  | zero =>
    intro need k b X last step change hf hX hk hl hb
    obtain rfl : need = 0 := by omega
    obtain ⟨k, rfl⟩ : ∃ j, k = j + 1 := ⟨k - 1, by omega⟩
    rw [ints_Get.l0, if_neg (by omega)]
    unfold getRuns
    rw [if_pos rfl]
    by_cases h : 0 < b.length
    · rw [if_pos (by omega), if_pos h]; rfl
    · rw [if_neg (by omega), if_neg h]; simp [sums]
  | succ f ih =>
    intro need k b X last step change hf hX hk hl hb
    obtain ⟨k, rfl⟩ : ∃ j, k = j + 1 := ⟨k - 1, by omega⟩
    obtain ⟨prev, hprev⟩ : ∃ p, p = (if X = [] then none else some change) := ⟨_, rfl⟩
    rw [← hprev, ints_Get.l0]
    unfold getRuns
    by_cases h0 : need = 0
    · subst h0
      rw [if_neg (by omega), if_pos rfl]
      by_cases h : 0 < b.length
      · rw [if_pos (by omega), if_pos h]; rfl
      · rw [if_neg (by omega), if_neg h]; simp [sums]
    rw [if_pos (by omega), if_neg h0]
    by_cases h1 : b.length = 0
    · rw [if_pos (by omega), if_pos h1]; rfl
    rw [if_neg (by omega), if_neg h1, get_k k (by omega) b hl hb, Option.bind_some]
    have hr := vget_range b hb
    obtain ⟨u, hu⟩ : ∃ u, u = vget b := ⟨_, rfl⟩
    rw [← hu] at hr ⊢
    by_cases h2 : u.2.2 = 0
    · rw [if_pos h2, if_neg (show ¬ (u.2.2 ≠ 0) from by simpa using h2)]
      by_cases h3 : u.1 = 0
      · rw [if_pos h3, if_pos (Or.inl h3)]; rfl
      rw [if_neg h3]
      have hw : IntKind.u64.wrap (wrap64 ((n : Int) - (X.length : Int))) = (need : Int) := by
        show wrap64 ((n : Int) - (X.length : Int)) % 18446744073709551616 = _
        rw [w64 (by omega) (by omega)]
        omega
      rw [hw]
      by_cases h4 : u.1 > need
      · rw [if_pos h4, if_pos (Or.inr h4)]; rfl
      rw [if_neg h4, if_pos hr.2.2.1, if_pos hr.2.2.2, if_neg (show ¬ (u.1 = 0 ∨ u.1 > (need : Int)) from by omega)]
      obtain ⟨b1, hb1⟩ : ∃ b1, b1 = b.drop u.2.1.toNat := ⟨_, rfl⟩
      have hb1y : ∀ x ∈ b1, isByte x = true := fun x hx => hb x (by rw [hb1] at hx; exact List.mem_of_mem_drop hx)
      have hb1l : b1.length ≤ b.length := by rw [hb1, List.length_drop]; omega
      have hb1e : b1.length = b.length - u.2.1.toNat := by rw [hb1, List.length_drop]
      rw [← hb1, get_k k (by omega) b1 (by omega) hb1y, Option.bind_some]
      have hr2 := vget_range b1 hb1y
      obtain ⟨v, hv⟩ : ∃ v, v = vget b1 := ⟨_, rfl⟩
      rw [← hv] at hr2 ⊢
      by_cases h5 : v.2.2 = 0
      · rw [if_pos h5, if_neg (show ¬ (v.2.2 ≠ 0) from by simpa using h5)]
        obtain ⟨m, hm⟩ : ∃ m, m = u.1.toNat := ⟨_, rfl⟩
        have hum : u.1 = (m : Int) := by omega
        have hgo : ints_Get.j2 k b (n : Int) X last step u.1 u.2.1 v.1 v.2.1 = some (if (getRuns f (need - m) (some (zag v.1)) (b.drop (u.2.1 + v.2.1).toNat)).2 = 0 then (X ++ sums last step (List.replicate m (zag v.1) ++ (getRuns f (need - m) (some (zag v.1)) (b.drop (u.2.1 + v.2.1).toNat)).1), 0) else ([], (getRuns f (need - m) (some (zag v.1)) (b.drop (u.2.1 + v.2.1).toNat)).2)) := by
          obtain ⟨k, rfl⟩ : ∃ j, k = j + 1 := ⟨k - 1, by omega⟩
          have hw2 : wrap64 (u.2.1 + v.2.1) = u.2.1 + v.2.1 := w64 (by omega) (by omega)
          rw [ints_Get.j2, hw2, if_pos (by omega), if_pos (by omega), zag_f v.1 hr2.1 hr2.2.1, Option.bind_some, hum]
          obtain ⟨k, rfl⟩ : ∃ j, k = j + m + 1 := ⟨k - m - 1, by omega⟩
          have hl1 := intsGet_l1 (b.drop (u.2.1 + v.2.1).toNat) (n : Int) (zag v.1) m (by omega) m k X last step (Nat.le_refl m) (by omega)
          rw [Nat.sub_self] at hl1
          have hXl := itr_len m last step (zag v.1)
          have hne : X ++ (itr m last step (zag v.1)).1 ≠ [] := by
            intro e
            have := congrArg List.length e
            simp [hXl] at this
            omega
          rw [show ((0 : Nat) : Int) = 0 from rfl] at hl1
          rw [hl1, ih (need - m) k _ _ _ _ _ (by omega) (by rw [List.length_append, hXl]; omega) (by omega) (by rw [List.length_drop]; omega) (fun x hx => hb x (List.mem_of_mem_drop hx)), if_neg hne, sums_itr, List.append_assoc]
        rw [← hm]
        by_cases h6 : X = []
        · subst h6
          rw [if_pos rfl] at hprev
          subst hprev
          rw [if_neg (show ¬ ((([] : List Int).length : Int) > 0) from by simp), if_neg (show ¬ ((none : Option Int) = some (zag v.1)) from by simp), hgo]
          by_cases h7 : (getRuns f (need - m) (some (zag v.1)) (b.drop (u.2.1 + v.2.1).toNat)).2 = 0
          · rw [if_pos h7, if_pos h7, if_pos rfl]
          · rw [if_neg h7, if_neg h7, if_neg h7]
        · rw [if_neg h6] at hprev
          subst hprev
          have hX0 : 0 < X.length := List.length_pos_iff.mpr h6
          rw [if_pos (by omega), zag_f v.1 hr2.1 hr2.2.1, Option.bind_some]
          by_cases h8 : zag v.1 = change
          · rw [if_pos h8, if_pos (show (some change : Option Int) = some (zag v.1) from by rw [h8])]; rfl
          · rw [if_neg h8, if_neg (show ¬ ((some change : Option Int) = some (zag v.1)) from fun e => h8 (by injection e with e; exact e.symm)), hgo]
            by_cases h7 : (getRuns f (need - m) (some (zag v.1)) (b.drop (u.2.1 + v.2.1).toNat)).2 = 0
            · rw [if_pos h7, if_pos h7, if_pos rfl]
            · rw [if_neg h7, if_neg h7, if_neg h7]
      · rw [if_neg h5, if_pos (show v.2.2 ≠ 0 from h5)]
        dsimp only
        rw [if_neg h5]
    · rw [if_neg h2, if_pos (show u.2.2 ≠ 0 from h2)]
      dsimp only
      rw [if_neg h2]
theorem intsGet_f (b : List Int) (n : Nat) (hn : n ≤ 65536) (hl : b.length ≤ 1000000) (hb : ∀ x ∈ b, isByte x = true) (k : Nat) (hk : 4 * n + 31 ≤ k) : ints_Get.f k b (n : Int) = some (getInts b n) := by
  obtain ⟨k, rfl⟩ : ∃ j, k = j + 1 := ⟨k - 1, by omega⟩
  have h := intsGet_l0 n hn n n k b [] 0 0 0 (Nat.le_refl n) (by simp) (by omega) hl hb
  unfold ints_Get.f
  rw [if_neg (by omega), decide_eq_false (by omega), ints_Get.j0, if_neg (by decide), h]
  unfold getInts
  simp
theorem getNum_l0 (m : List Int) (hl : m.length ≤ 100000) : ∀ (d k i : Nat) (X : List S39), i + d = m.length → d < k → X.length = i → column_getNumbers.l0 k X m (m.length : Int) (i : Int) = some (X ++ (m.drop i).map fun v => ⟨2, v, ⟨#[]⟩⟩, 0) := by
  intro d
  induction d with
  | zero =>
    intro k i X hi hk hX
    obtain ⟨k, rfl⟩ : ∃ j, k = j + 1 := ⟨k - 1, by omega⟩
    rw [column_getNumbers.l0, if_neg (by omega), List.drop_of_length_le (by omega)]
    simp
  | succ d ih =>
    intro k i X hi hk hX
    obtain ⟨k, rfl⟩ : ∃ j, k = j + 1 := ⟨k - 1, by omega⟩
    have hlt : i < m.length := by omega
    rw [column_getNumbers.l0, if_pos (by omega), if_pos (by omega), if_pos (by omega), if_pos (by omega), w64s i (by omega), ih k (i + 1) _ (by omega) (by omega) (by simp [hX])]
    have e : (m.drop i).map (fun v => (⟨2, v, ⟨#[]⟩⟩ : S39)) = ⟨2, rd m (i : Int), ⟨#[]⟩⟩ :: (m.drop (i + 1)).map (fun v => (⟨2, v, ⟨#[]⟩⟩ : S39)) := by
      rw [List.drop_eq_getElem_cons hlt, List.map_cons]
      simp [rd, List.getD_eq_getElem?_getD, hlt]
    rw [e, List.append_assoc]
    rfl
theorem getRuns_len : ∀ (f need : Nat) (prev : Option Int) (b : List Int), need ≤ f → (∀ x ∈ b, isByte x = true) → (getRuns f need prev b).1.length ≤ need := by
  intro f
  induction f with
  | zero => intro need prev b h hb; unfold getRuns; repeat (first | (split; skip) | exact Nat.zero_le _)
  | succ f ih =>
    intro need prev b h hb
    have hvr := vget_range b hb
    unfold getRuns
    split
    · split <;> exact Nat.zero_le _
    · split
      · exact Nat.zero_le _
      · split
        · exact Nat.zero_le _
        · split
          · exact Nat.zero_le _
          · split
            · exact Nat.zero_le _
            · split
              · exact Nat.zero_le _
              · split
                · rename_i h0 h1 h2 h3 h4 h5 h6
                  have := ih (need - (vget b).1.toNat) (some (zag (vget (b.drop (vget b).2.1.toNat)).1)) (b.drop ((vget b).2.1 + (vget (b.drop (vget b).2.1.toNat)).2.1).toNat) (by omega) (fun x hx => hb x (List.mem_of_mem_drop hx))
                  simp only [List.length_append, List.length_replicate]
                  omega
                · exact Nat.zero_le _
theorem getInts_len (b : List Int) (n : Nat) (hb : ∀ x ∈ b, isByte x = true) : (getInts b n).1.length ≤ n := by
  have hs : ∀ (l : List Int) (last step : Int), (sums last step l).length = l.length := by
    intro l
    induction l with
    | nil => intro _ _; rfl
    | cons v r ih => intro _ _; simp [sums, ih]
  have := getRuns_len n n none b (Nat.le_refl n) hb
  unfold getInts
  split
  · rw [hs]; exact this
  · exact Nat.zero_le _
theorem getNum_f (b : List Int) (n : Nat) (hn : n ≤ 65536) (hl : b.length ≤ 1000000) (hb : ∀ x ∈ b, isByte x = true) (k : Nat) (hk : 4 * n + 31 ≤ k) : column_getNumbers.f k b (n : Int) = some ((getInts b n).1.map (fun v => ⟨2, v, ⟨#[]⟩⟩), (getInts b n).2) := by
  unfold column_getNumbers.f
  rw [intsGet_f b n hn hl hb k hk, Option.bind_some]
  have hlen := getInts_len b n hb
  by_cases h : (getInts b n).2 = 0
  · rw [if_pos h]
    have := getNum_l0 (getInts b n).1 (by omega) (getInts b n).1.length k 0 [] (by omega) (by omega) rfl
    simp only [List.nil_append, List.drop_zero] at this
    rw [h]
    exact this
  · rw [if_neg h]
    have e : (getInts b n).1 = [] := by
      unfold getInts at h ⊢
      split
      · rename_i h1; rw [if_pos h1] at h; exact absurd rfl h
      · rfl
    rw [e]; rfl
end Go.Proofs.Ytlmcefhpnfoahaa.P
end

section
namespace Go.Proofs.Ytlmcefhpnfoahaa.P
open Go.RowKit Go.Proofs.YtlmcefhpnfoahaaW.PrintWords Go.Proofs.YtlmcefhpnfoahaaW.PrintLast Go.Proofs.YtlmcefhpnfoahaaW.PrintMore
set_option linter.unusedVariables false
set_option linter.unusedSimpArgs false

theorem cnt_zero (nul : Nat → Bool) : cntF nul 0 = 0 := rfl
theorem cnt_succ (nul : Nat → Bool) (n : Nat) : cntF nul (n + 1) = cntF nul n + if nul n then 0 else 1 := by
  unfold cntF
  rw [List.range_succ, List.filter_append, List.length_append]
  cases h : nul n <;> simp [h]
theorem cnt_le (nul : Nat → Bool) : ∀ n, cntF nul n ≤ n := by
  intro n
  induction n with
  | zero => exact Nat.le_refl _
  | succ n ih => rw [cnt_succ]; split <;> omega
theorem cnt_mono (nul : Nat → Bool) (k : Nat) : ∀ n, k ≤ n → cntF nul k ≤ cntF nul n := by
  intro n
  induction n with
  | zero => intro h; obtain rfl : k = 0 := by omega
            exact Nat.le_refl _
  | succ n ih =>
    intro h
    by_cases e : k = n + 1
    · subst e; exact Nat.le_refl _
    · have := ih (by omega)
      rw [cnt_succ]; omega
theorem cnt_lt (nul : Nat → Bool) (k n : Nat) (h : k < n) (hk : nul k = false) : cntF nul k < cntF nul n := by
  have h1 := cnt_mono nul (k + 1) n h
  rw [cnt_succ, hk] at h1
  simp at h1
  omega
theorem merge_len (nul : Nat → Bool) : ∀ (n i : Nat) (m : List S39), (merge nul i n m).length = n := by
  intro n
  induction n with
  | zero => intro i m; rfl
  | succ n ih => intro i m; unfold merge; split <;> simp [ih]
theorem merge_get (nul : Nat → Bool) : ∀ (n i : Nat) (m : List S39) (j : Nat), j < n → (merge nul i n m).getD j z39 = if nul (i + j) then z39 else m.getD (cntF nul (i + j) - cntF nul i) z39 := by
  intro n
  induction n with
  | zero => intro i m j h; omega
  | succ n ih =>
    intro i m j h
    have hs := cnt_succ nul i
    cases j with
    | zero =>
      rw [show i + 0 = i from rfl, Nat.sub_self]
      unfold merge
      by_cases hn : nul i = true
      · rw [if_pos hn, if_pos hn]; rfl
      · rw [if_neg hn, if_neg hn]
        cases m <;> rfl
    | succ j =>
      have hm := cnt_mono nul (i + 1) (i + 1 + j) (by omega)
      unfold merge
      rw [show i + (j + 1) = i + 1 + j by omega]
      by_cases hn : nul i = true
      · rw [if_pos hn]
        rw [if_pos hn] at hs
        have := ih (i + 1) m j (by omega)
        rw [show (z39 :: merge nul (i + 1) n m).getD (j + 1) z39 = (merge nul (i + 1) n m).getD j z39 from rfl, this, hs]
        rfl
      · rw [if_neg hn]
        rw [if_neg hn] at hs
        have := ih (i + 1) m.tail j (by omega)
        rw [show (m.headD z39 :: merge nul (i + 1) n m.tail).getD (j + 1) z39 = (merge nul (i + 1) n m.tail).getD j z39 from rfl, this]
        by_cases hn2 : nul (i + 1 + j) = true
        · rw [if_pos hn2, if_pos hn2]
        · rw [if_neg hn2, if_neg hn2]
          have e : cntF nul (i + 1 + j) - cntF nul i = (cntF nul (i + 1 + j) - cntF nul (i + 1)) + 1 := by omega
          rw [e]
          cases m <;> rfl
/-- The first k of the merged values. -/
def outK (nul : Nat → Bool) (n : Nat) (m : List S39) (k : Nat) : List S39 := (List.range n).map fun i => if i < k then (merge nul 0 n m).getD i z39 else z39
theorem outK_length (nul : Nat → Bool) (n : Nat) (m : List S39) (k : Nat) : (outK nul n m k).length = n := by simp [outK]
theorem outK_zero (nul : Nat → Bool) (n : Nat) (m : List S39) : outK nul n m 0 = List.replicate n z39 := by
  unfold outK
  apply List.ext_getElem
  · simp
  · intro i h1 h2; simp
theorem outK_all (nul : Nat → Bool) (n : Nat) (m : List S39) : outK nul n m n = merge nul 0 n m := by
  unfold outK
  apply List.ext_getElem
  · simp [merge_len]
  · intro i h1 h2
    have hi : i < n := by simpa using h1
    simp [hi, List.getD_eq_getElem?_getD, h2]
theorem outK_val (nul : Nat → Bool) (n : Nat) (m : List S39) (k : Nat) (h : k < n) (hk : nul k = false) (x : S39) (hx : m.getD (cntF nul k) z39 = x) : (outK nul n m k).set k x = outK nul n m (k + 1) := by
  have hg := merge_get nul n 0 m k h
  rw [Nat.zero_add, hk, cnt_zero, Nat.sub_zero, hx] at hg
  simp only [Bool.false_eq_true, if_false] at hg
  unfold outK
  apply List.ext_getElem
  · simp
  · intro i h1 h2
    rw [List.getElem_set]
    by_cases e : k = i
    · subst e; rw [List.getD_eq_getElem?_getD] at hg; simp [hg]
    · have : (i < k + 1) ↔ (i < k) := by omega
      simp [e, this]
theorem outK_nul (nul : Nat → Bool) (n : Nat) (m : List S39) (k : Nat) (h : k < n) (hk : nul k = true) : outK nul n m (k + 1) = outK nul n m k := by
  have hg := merge_get nul n 0 m k h
  rw [Nat.zero_add, hk] at hg
  simp only [if_true] at hg
  unfold outK
  apply List.map_congr_left
  intro i hi
  by_cases e : k = i
  · subst e; rw [List.getD_eq_getElem?_getD] at hg; simp [hg]
  · have : (i < k + 1) ↔ (i < k) := by omega
    simp [this]
theorem runs_len_eq : ∀ (f need : Nat) (prev : Option Int) (b : List Int), need ≤ f → (∀ x ∈ b, isByte x = true) → (getRuns f need prev b).2 = 0 → (getRuns f need prev b).1.length = need := by
  intro f
  induction f with
  | zero =>
    intro need prev b h hb h0
    obtain rfl : need = 0 := by omega
    unfold getRuns
    rw [if_pos rfl]
    split <;> rfl
  | succ f ih =>
    intro need prev b h hb h0
    have hvr := vget_range b hb
    unfold getRuns at h0 ⊢
    by_cases c0 : need = 0
    · rw [if_pos c0]; subst c0; split <;> rfl
    rw [if_neg c0] at h0 ⊢
    by_cases c1 : b.length = 0
    · rw [if_pos c1] at h0; simp at h0
    rw [if_neg c1] at h0 ⊢
    by_cases c2 : (vget b).2.2 ≠ 0
    · rw [if_pos c2] at h0; exact absurd h0 c2
    rw [if_neg c2] at h0 ⊢
    by_cases c3 : (vget b).1 = 0 ∨ (vget b).1 > need
    · rw [if_pos c3] at h0; simp at h0
    rw [if_neg c3] at h0 ⊢
    by_cases c4 : (vget (b.drop (vget b).2.1.toNat)).2.2 ≠ 0
    · rw [if_pos c4] at h0; exact absurd h0 c4
    rw [if_neg c4] at h0 ⊢
    by_cases c5 : prev = some (zag (vget (b.drop (vget b).2.1.toNat)).1)
    · rw [if_pos c5] at h0; simp at h0
    rw [if_neg c5] at h0 ⊢
    by_cases c6 : (getRuns f (need - (vget b).1.toNat) (some (zag (vget (b.drop (vget b).2.1.toNat)).1)) (b.drop ((vget b).2.1 + (vget (b.drop (vget b).2.1.toNat)).2.1).toNat)).2 = 0
    · rw [if_pos c6]
      have := ih _ _ _ (by omega) (fun x hx => hb x (List.mem_of_mem_drop hx)) c6
      simp only [List.length_append, List.length_replicate, this]
      omega
    · rw [if_neg c6] at h0; exact absurd h0 c6
theorem which_len_eq (W : List ByteArray) : ∀ (n : Nat) (b : List Int), (getWhich W n b).2.2 = 0 → (getWhich W n b).1.length = n := by
  intro n
  induction n with
  | zero => intro b _; rfl
  | succ n ih =>
    intro b h
    unfold getWhich at h ⊢
    by_cases h1 : (vget b).2.2 ≠ 0
    · rw [if_pos h1] at h; exact absurd h h1
    rw [if_neg h1] at h ⊢
    by_cases h2 : (vget b).1 ≥ (W.length : Int)
    · rw [if_pos h2] at h; simp at h
    rw [if_neg h2] at h ⊢
    by_cases h3 : (getWhich W n (b.drop (vget b).2.1.toNat)).2.2 = 0
    · rw [if_pos h3] at h ⊢; simp [ih _ h3]
    · rw [if_neg h3] at h; exact absurd h h3
theorem marks_len_eq (kind : Int) (b : List Int) (n : Nat) (hb : ∀ x ∈ b, isByte x = true) (h : (getMarks kind b n).2 = 0) : (getMarks kind b n).1.length = n := by
  have hs : ∀ (l : List Int) (last step : Int), (sums last step l).length = l.length := by
    intro l
    induction l with
    | nil => intro _ _; rfl
    | cons v r ih => intro _ _; simp [sums, ih]
  unfold getMarks at h ⊢
  by_cases k1 : kind = 1
  · rw [if_pos k1] at h ⊢
    unfold getTruths at h ⊢
    by_cases c1 : b.length < (n + 7) / 8
    · rw [if_pos c1] at h; simp at h
    rw [if_neg c1] at h ⊢
    by_cases c2 : loose b n = true
    · rw [if_pos c2] at h; simp at h
    rw [if_neg c2] at h ⊢
    by_cases c3 : 0 < (b.drop ((n + 7) / 8)).length
    · rw [if_pos c3] at h; simp at h
    rw [if_neg c3]
    simp
  rw [if_neg k1] at h ⊢
  by_cases k2 : kind = 2
  · rw [if_pos k2] at h ⊢
    dsimp only at h ⊢
    rw [List.length_map]
    unfold getInts at h ⊢
    by_cases c1 : (getRuns n n none b).2 = 0
    · rw [if_pos c1]; dsimp only; rw [hs]; exact runs_len_eq n n none b (Nat.le_refl n) hb c1
    · rw [if_neg c1] at h; exact absurd h c1
  rw [if_neg k2] at h ⊢
  dsimp only at h ⊢
  rw [List.length_map]
  unfold getTexts at h ⊢
  by_cases h1 : (vget b).2.2 ≠ 0
  · rw [if_pos h1] at h; exact absurd h h1
  rw [if_neg h1] at h ⊢
  by_cases h2 : (vget b).1 > n
  · rw [if_pos h2] at h; simp at h
  rw [if_neg h2] at h ⊢
  generalize getWords (vget b).1.toNat (b.drop (vget b).2.1.toNat) = G at *
  by_cases h3 : G.2.2 ≠ 0
  · rw [if_pos h3] at h; exact absurd h h3
  rw [if_neg h3] at h ⊢
  have hl := which_len_eq G.1 n G.2.1
  generalize getWhich G.1 n G.2.1 = H at *
  by_cases h4 : H.2.2 ≠ 0
  · rw [if_pos h4] at h; exact absurd h h4
  rw [if_neg h4] at h ⊢
  by_cases h5 : encTexts H.1 = b
  · rw [if_pos h5]; exact hl (by simpa using h4)
  · rw [if_neg h5] at h; simp at h
end Go.Proofs.Ytlmcefhpnfoahaa.P
end

section
namespace Go.Proofs.Ytlmcefhpnfoahaa.P
open Go.RowKit Go.Proofs.YtlmcefhpnfoahaaW.PrintWords Go.Proofs.YtlmcefhpnfoahaaW.PrintLast Go.Proofs.YtlmcefhpnfoahaaW.PrintMore
attribute [local go_sem] max2_int min2_int max_two min_two max_three min_three max_four min_four   -- for this text's walks alone
set_option linter.unusedVariables false
set_option linter.unusedSimpArgs false

mutual
def column_getTexts.l0 : Nat → List Int → Int → Int → List Int → List ByteArray → Int → Int → Option ((List (S39)) × Int)
  | 0, _, _, _, _, _, _, _ => none
  | k + 1, x0, x1, x6, x9, x10, x36, x37 => if x37 < x36 then ((varint_Get.f k x9).bind fun bt439 => (if bt439.2.2 = 0 then (if bt439.1 > (IntKind.u64.wrap (wrap64 ((x9.length : Int) - bt439.2.1))) then (some (([] : List (S39)), 20)) else (if 0 ≤ bt439.2.1 then (if bt439.2.1 ≤ (wrap64 (bt439.2.1 + (wrap64 (bt439.1)))) then (if (wrap64 (bt439.2.1 + (wrap64 (bt439.1)))) ≤ (x9.length : Int) then (if x10.length < 8796093022208 then (if 0 ≤ (wrap64 (bt439.2.1 + (wrap64 (bt439.1)))) then (column_getTexts.l0 k x0 x1 x6 (x9.drop ((wrap64 (bt439.2.1 + (wrap64 (bt439.1)))) : Int).toNat) (x10 ++ [strOfNums ((x9.take ((wrap64 (bt439.2.1 + (wrap64 (bt439.1)))) : Int).toNat).drop (bt439.2.1 : Int).toNat)]) x36 (IntKind.u64.wrap (x37 + 1))) else (none)) else (none)) else (none)) else (none)) else (none))) else (some (([] : List (S39)), bt439.2.2)))) else (column_getTexts.l1 k x0 x6 x9 x10 ([] : List (S39)) x1 0)
def column_getTexts.l1 : Nat → List Int → Int → List Int → List ByteArray → List (S39) → Int → Int → Option ((List (S39)) × Int)
  | 0, _, _, _, _, _, _, _ => none
  | k + 1, x0, x6, x9, x10, x14, x75, x76 => if x76 < x75 then ((varint_Get.f k x9).bind fun bt455 => (if bt455.2.2 = 0 then (if bt455.1 ≥ x6 then (some (([] : List (S39)), 21)) else (if 0 ≤ bt455.1 then (if bt455.1 < (x10.length : Int) then (if x14.length < 4398046511104 then (if 0 ≤ bt455.2.1 then (if bt455.2.1 ≤ (x9.length : Int) then (column_getTexts.l1 k x0 x6 (x9.drop (bt455.2.1 : Int).toNat) x10 (x14 ++ [(⟨3, 0, rdOf ByteArray.empty x10 bt455.1⟩ : S39)]) x75 (wrap64 (x76 + 1))) else (none)) else (none)) else (none)) else (none)) else (none))) else (some (([] : List (S39)), bt455.2.2)))) else ((column_putTexts.f x14).bind fun t467 => ((bytes_Equal.f t467 x0).bind fun t470 => (if t470 = true then (some (x14, 0)) else (some (([] : List (S39)), 21)))))
end
def column_getTexts.f (k : Nat) (l0 : List Int) (a1 : Int) : Option ((List (S39)) × Int) := (varint_Get.f k l0).bind fun bt431 => (if bt431.2.2 = 0 then (if bt431.1 > (IntKind.u64.wrap (a1)) then (some (([] : List (S39)), 21)) else (if 0 ≤ bt431.2.1 then (if bt431.2.1 ≤ (l0.length : Int) then (column_getTexts.l0 k l0 a1 bt431.1 (l0.drop (bt431.2.1 : Int).toNat) ([] : List ByteArray) bt431.1 0) else (none)) else (none))) else (some (([] : List (S39)), bt431.2.2)))
def column_getTexts.T26 : Bool × List (List Nat × List Nat) := (true, [([], []), ([], []), ([], []), ([1, 2], [1, 2]), ([3], [3]), ([4], [4]), ([5], [5]), ([0, 6], [0, 6]), ([], []), ([], []), ([8, 9], [8, 9]), ([7, 7, 0, 1, 2, 3, 4, 5, 6, 7], [0, 7]), ([10, 11, 0, 1, 2, 3, 4, 5, 6, 7, 8, 9, 10, 11], [8, 10])])
def column_getTexts.B26 : List Nat := [0, 0, 0, 6, 14, 30, 62, 127, 0, 0, 768, 255, 4095]
theorem column_getTexts.tab26 : rtab .any (opsOf Try.f138 26) = column_getTexts.T26 := by kernel_rfl
theorem column_getTexts.bits26 : waitsOk column_getTexts.T26.2 column_getTexts.B26 = true := by kernel_rfl
set_option maxHeartbeats 8000000 in
set_option maxRecDepth 100000 in
theorem column_getTexts.calls (k : Nat) (P0_ : Nat → Prop) (A0 : Option Addr) (c0 : Nat) (l0 : List Int) (a1 : Int) (r1 : List (S39)) (r2 : Int) (w : World) (hs0 : Kd.V (Kd.int .u8) 5 w w.heap.size (fun k_ => P0_ k_) (.slice A0 l0.length c0) l0) (h : column_getTexts.f k l0 a1 = some (r1, r2)) :
    Calls Try.prog 138 #[.slice A0 l0.length c0, .int .i64 a1] w fun e w' => ∃ v0_ : Value, e = .returned (.tuple #[v0_, .int .i64 r2]) ∧ Kd.R k39 39 w' w.heap.size (fun k_ => (w.heap.size ≤ k_)) v0_ r1 ∧ Below w.heap.size w w' := by
  have hu39 := Try.underlying39
  have HO0 := Aside0.mk (show Kd.V (Kd.int .u8) 5 w w.heap.size (fun k_ => (P0_ k_ ∨ w.heap.size ≤ k_)) (.slice A0 l0.length c0) l0 from Kd.V_mono hs0 (fun k_ hk => .inl hk))
  have HB := Aside0.mk (Below.refl w.heap.size w)
  have H : ((varint_Get.f k l0).bind fun bt431 => (if bt431.2.2 = 0 then (if bt431.1 > (IntKind.u64.wrap (a1)) then (some (([] : List (S39)), 21)) else (if 0 ≤ bt431.2.1 then (if bt431.2.1 ≤ (l0.length : Int) then (column_getTexts.l0 k l0 a1 bt431.1 (l0.drop (bt431.2.1 : Int).toNat) ([] : List ByteArray) bt431.1 0) else (none)) else (none))) else (some (([] : List (S39)), bt431.2.2)))) = some (r1, r2) := h
  clear h
  replace H := Option.bind_eq_some_iff.mp H
  obtain ⟨⟨t431, t432, t433⟩, A30, H⟩ := H
  replace H : (if t433 = 0 then (if t431 > (IntKind.u64.wrap (a1)) then (some (([] : List (S39)), 21)) else (if 0 ≤ t432 then (if t432 ≤ (l0.length : Int) then (column_getTexts.l0 k l0 a1 t431 (l0.drop (t432 : Int).toNat) ([] : List ByteArray) t431 0) else (none)) else (none))) else (some (([] : List (S39)), t433))) = some (r1, r2) := H
  have A3 := Aside0.mk A30
  clear A30
  by_cases c4 : t433 = 0
  · rw [if_pos c4] at H
    have c4b0 : (t433 == 0) = true := beq_iff_eq.mpr c4
    have c4b1 : (t433 != 0) = false := bne_eq_false_iff_eq.mpr c4
    clear c4
    by_cases c5 : t431 > (IntKind.u64.wrap (a1))
    · rw [if_pos c5] at H
      have c5b0 : decide ((IntKind.u64.wrap (a1)) < t431) = true := decide_eq_true c5
      clear c5
      simp only [Option.some.injEq, Prod.mk.injEq] at H
      obtain ⟨rfl, rfl⟩ := H
      go_enter Try.func138, Try.ntmps138
      go_wp2_with (first | ((with_reducible refine gate_callee (f := 126) rfl ?_); refine goesL_ (some 20) rfl rfl Try.func126 (by kernel_rfl) rfl #[.slice A0 l0.length c0] rfl (by (try simp only [List.map_toArray, List.map_cons, List.map_nil]); first | done | rfl | (simp only [List.length_drop, List.length_take]; rfl)) ?_; (with_reducible refine (varint_Get.calls k _ _ l0 t431 t432 t433 _ ?side1 ?side2 A3.out).mono ?_); (case side1 => repeat (first | exact (Kd.V_reads' HO0.out).2.2 | (with_reducible refine Kd.C_alloc ?_ _) | (with_reducible refine Kd.C_drewN ?_ _) | (with_reducible refine Kd.C_drew ?_))); (case side2 => exact (Kd.V_reads' HO0.out).2.1); rintro e w' ⟨rfl, ⟨nd, rfl⟩⟩; refine ⟨_, rfl, ?_⟩))
      go_ret2
      exact ⟨_, by first | rfl | (simp [errW_none, errW_some] <;> rfl) | (simp [*, errW_none, errW_some] <;> rfl), by first | exact Kd.R_nil _ _ _ _ _ | exact Kd.N_nil _ _ _ _ _ | exact Kd.V_nil _ _ _ _ _ | exact Kd.Q_nil _ _ _ _ _ | exact Kd.S_nil _ _ _ _ _, by repeat (first | (with_reducible first | exact HB.out | apply below_alloc | apply pw_below_drewN | apply below_drew1) | exact HB.out)⟩
    · rw [if_neg c5] at H
      have c5b0 : decide ((IntKind.u64.wrap (a1)) < t431) = false := decide_eq_false c5
      clear c5
      by_cases c6 : 0 ≤ t432
      · rw [if_pos c6] at H
        have c6b0 := eq_true c6
        have c6b1 : decide (0 ≤ t432) = true := decide_eq_true c6
        clear c6
        by_cases c7 : t432 ≤ (l0.length : Int)
        · rw [if_pos c7] at H
          have c7b0 := eq_true c7
          have c7b1 : decide (t432 ≤ (l0.length : Int)) = true := decide_eq_true c7
          clear c7
          obtain ⟨y434, hy434⟩ : ∃ y_ : List Int, y_ = (l0.drop (t432 : Int).toNat) := ⟨_, rfl⟩
          replace H : (column_getTexts.l0 k l0 a1 t431 y434 ([] : List ByteArray) t431 0) = some (r1, r2) := by first | (rw [hy434]; with_reducible exact H) | (have H2_ := (Option.bind_some _ _).symm.trans H; rw [hy434]; with_reducible exact H2_) | (have H2_ := (Option.bind_some _ _).symm.trans H; with_reducible exact H2_) | with_reducible exact H | (rw [hy434]; exact H) | exact H
          have Ny434 := Aside0.mk hy434
          clear hy434
          have H' := Aside0.mk H
          clear H
          go_enter Try.func138, Try.ntmps138
          go_wp2_with (first | ((with_reducible refine gate_callee (f := 126) rfl ?_); refine goesL_ (some 20) rfl rfl Try.func126 (by kernel_rfl) rfl #[.slice A0 l0.length c0] rfl (by (try simp only [List.map_toArray, List.map_cons, List.map_nil]); first | done | rfl | (simp only [List.length_drop, List.length_take]; rfl)) ?_; (with_reducible refine (varint_Get.calls k _ _ l0 t431 t432 t433 _ ?side1 ?side2 A3.out).mono ?_); (case side1 => repeat (first | exact (Kd.V_reads' HO0.out).2.2 | (with_reducible refine Kd.C_alloc ?_ _) | (with_reducible refine Kd.C_drewN ?_ _) | (with_reducible refine Kd.C_drew ?_))); (case side2 => exact (Kd.V_reads' HO0.out).2.1); rintro e w' ⟨rfl, ⟨nd, rfl⟩⟩; refine ⟨_, rfl, ?_⟩; have q8 : (t432 : Int) ≤ ((l0.length : Int) : Int) := of_decide_eq_true (by first | (with_reducible assumption) | assumption); obtain ⟨i08, hi08, _, hsz8, _⟩ := info_parts info5; have hroom8 : l0.length ≤ c0 := (Kd.V_reads' HO0.out).2.1; have hC8 : Kd.F (Kd.int .u8) _ _ A0 l0.length l0 := (Kd.V_at (base := w.heap.size) HO0.out).2.2; have q08 : (0 : Int) ≤ (t432 : Int) := of_decide_eq_true (by first | (with_reducible assumption) | assumption); have hcut8 := Go.Proofs.YtlmcefhpnfoahaaW.PrintWords.cut_from (P := Try.prog) 22 5 .i64 Try.underlying22 hi08 1 hsz8 A0 l0.length c0 t432 q08 q8; have hr8 := Kd.F_cut (m := (t432 : Int).toNat) (c := c0) hC8 (by omega) hroom8; obtain ⟨A8, hA8⟩ : ∃ A1, A1 = (if c0 = (t432 : Int).toNat then A0 else (A0 : Option Addr).map (·.add ((t432 : Int).toNat * 1))) := ⟨_, rfl⟩; obtain ⟨c8, hc8⟩ : ∃ c1, c1 = c0 - (t432 : Int).toNat := ⟨_, rfl⟩; have hy8 : y434.length = l0.length - (t432 : Int).toNat := (by rw [Ny434.out, List.length_drop] <;> omega); rw [show (l0).drop (t432 : Int).toNat = y434 from Ny434.out.symm] at hr8; replace hr8 : Kd.F (Kd.int .u8) _ _ A8 y434.length y434 := (by rw [hA8]; exact hr8); rw [← hy8, ← hA8, ← hc8] at hcut8; have HO438 := Aside0.mk (show Kd.V (Kd.int .u8) 5 _ w.heap.size _ (.slice A8 y434.length c8) y434 from Kd.V_mk (by rw [hy8, hc8]; exact Nat.sub_le_sub_right hroom8 _) hr8); have HC438 := Aside0.mk (show y434.length ≤ c8 from by rw [hy8, hc8]; exact Nat.sub_le_sub_right hroom8 _); clear hr8 hC8 hroom8 hi08 hsz8 hc8; have KY8 := Aside0.mk hy8; have KA8 := Aside0.mk hA8; clear hy8 hA8; replace q8 := eq_true q8))
          go_loopg [9, 10, 37] k (fun kq v9 v10 v37 w' => ∃ (x9_1 : List Int) (x10_1 : List ByteArray) (x37_1 : Int), v37 = .int .u64 x37_1 ∧ Aside0 (column_getTexts.l0 kq l0 a1 t431 x9_1 x10_1 t431 x37_1 = some (r1, r2)) ∧ Aside0 (kq ≤ k) ∧ Aside0 (Kd.V (Kd.int .u8) 5 w' w.heap.size (fun k_ => (P0_ k_ ∨ w.heap.size ≤ k_) ∧ some k_ ≠ (v10 : Value).ownBlock) (.slice A0 l0.length c0) l0) ∧ Aside0 (Kd.V (Kd.int .u8) 5 w' w.heap.size (fun k_ => (P0_ k_ ∨ w.heap.size ≤ k_) ∧ some k_ ≠ (v10 : Value).ownBlock) v9 x9_1) ∧ Aside0 (Kd.R Kd.string 9 w' w.heap.size (fun k_ => (w.heap.size ≤ k_)) v10 x10_1) ∧ Aside0 (Below w.heap.size w w'))
          case atStart => exact ⟨(y434), (([] : List ByteArray)), (0), (by first | rfl | (simp; done) | (simp [*]; done)), H', ⟨Nat.le_refl _⟩, ⟨by (with_reducible repeat (first | apply Kd.V_alloc | apply Kd.V_drewN | apply Kd.V_drew)); exact Kd.V_mono HO0.out (fun _ hk => ⟨hk, (by simp [Value.ownBlock])⟩)⟩, ⟨by (with_reducible repeat (first | apply Kd.V_alloc | apply Kd.V_drewN | apply Kd.V_drew)); exact Kd.V_mono HO438.out (fun _ hk => ⟨hk, (by simp [Value.ownBlock])⟩)⟩, ⟨by first | exact Kd.R_nil _ _ _ _ _ | exact Kd.N_nil _ _ _ _ _ | exact Kd.V_nil _ _ _ _ _ | exact Kd.Q_nil _ _ _ _ _ | exact Kd.S_nil _ _ _ _ _⟩, ⟨by repeat (first | (with_reducible first | exact HB.out | apply below_alloc | apply pw_below_drewN | apply below_drew1) | exact HB.out)⟩⟩
          case round =>
            clear H'
            try clear c1
            try clear p2
            try clear c4
            try clear c4b0
            try clear c4b1
            try clear c5
            try clear c5b0
            try clear c6
            try clear c6b0
            try clear c6b1
            try clear c7
            try clear c7b0
            try clear c7b1
            try clear c8
            try clear q8
            try clear q08
            try clear q8
            obtain ⟨x9_1, x10_1, x37_1, rfl, HA, HK1, HO_0, HO_9, HO_10, HB⟩ := hrel
            cases gk with
            | zero => exact absurd HA.out (by simp [column_getTexts.l0])
            | succ k1 =>
              have H := HA.out
              clear HA
              simp only [column_getTexts.l0] at H
              by_cases c9 : x37_1 < t431
              · rw [if_pos c9] at H
                have c9b0 : decide (x37_1 < t431) = true := decide_eq_true c9
                clear c9
                replace H := Option.bind_eq_some_iff.mp H
                obtain ⟨⟨t439, t440, t441⟩, A100, H⟩ := H
                replace H : (if t441 = 0 then (if t439 > (IntKind.u64.wrap (wrap64 ((x9_1.length : Int) - t440))) then (some (([] : List (S39)), 20)) else (if 0 ≤ t440 then (if t440 ≤ (wrap64 (t440 + (wrap64 (t439)))) then (if (wrap64 (t440 + (wrap64 (t439)))) ≤ (x9_1.length : Int) then (if x10_1.length < 8796093022208 then (if 0 ≤ (wrap64 (t440 + (wrap64 (t439)))) then (column_getTexts.l0 k1 l0 a1 t431 (x9_1.drop ((wrap64 (t440 + (wrap64 (t439)))) : Int).toNat) (x10_1 ++ [strOfNums ((x9_1.take ((wrap64 (t440 + (wrap64 (t439)))) : Int).toNat).drop (t440 : Int).toNat)]) t431 (IntKind.u64.wrap (x37_1 + 1))) else (none)) else (none)) else (none)) else (none)) else (none))) else (some (([] : List (S39)), t441))) = some (r1, r2) := H
                have A10 := Aside0.mk A100
                clear A100
                by_cases c11 : t441 = 0
                · rw [if_pos c11] at H
                  have c11b0 : (t441 == 0) = true := beq_iff_eq.mpr c11
                  have c11b1 : (t441 != 0) = false := bne_eq_false_iff_eq.mpr c11
                  clear c11
                  by_cases c12 : t439 > (IntKind.u64.wrap (wrap64 ((x9_1.length : Int) - t440)))
                  · rw [if_pos c12] at H
                    have c12b0 : decide ((IntKind.u64.wrap (wrap64 ((x9_1.length : Int) - t440))) < t439) = true := decide_eq_true c12
                    clear c12
                    simp only [Option.some.injEq, Prod.mk.injEq] at H
                    obtain ⟨rfl, rfl⟩ := H
                    obtain ⟨Ao13, co13, eo13⟩ := Kd.V_slice HO_9.out
                    subst eo13
                    go_wp2_with (first | ((with_reducible refine gate_callee (f := 126) rfl ?_); refine goesL_ (some 41) rfl rfl Try.func126 (by kernel_rfl) rfl #[.slice Ao13 x9_1.length co13] rfl (by (try simp only [List.map_toArray, List.map_cons, List.map_nil]); first | done | rfl | (simp only [List.length_drop, List.length_take]; rfl)) ?_; (with_reducible refine (varint_Get.calls k1 _ _ x9_1 t439 t440 t441 _ ?side1 ?side2 A10.out).mono ?_); (case side1 => repeat (first | exact (Kd.V_reads' HO_9.out).2.2 | (with_reducible refine Kd.C_alloc ?_ _) | (with_reducible refine Kd.C_drewN ?_ _) | (with_reducible refine Kd.C_drew ?_))); (case side2 => exact (Kd.V_reads' HO_9.out).2.1); rintro e w' ⟨rfl, ⟨nd, rfl⟩⟩; refine ⟨_, rfl, ?_⟩))
                    go_ret2
                    exact ⟨_, by first | rfl | (simp [errW_none, errW_some] <;> rfl) | (simp [*, errW_none, errW_some] <;> rfl), by first | exact Kd.R_nil _ _ _ _ _ | exact Kd.N_nil _ _ _ _ _ | exact Kd.V_nil _ _ _ _ _ | exact Kd.Q_nil _ _ _ _ _ | exact Kd.S_nil _ _ _ _ _, by repeat (first | (with_reducible first | exact HB.out | apply below_alloc | apply pw_below_drewN | apply below_drew1) | exact HB.out)⟩
                  · rw [if_neg c12] at H
                    have c12b0 : decide ((IntKind.u64.wrap (wrap64 ((x9_1.length : Int) - t440))) < t439) = false := decide_eq_false c12
                    clear c12
                    by_cases c14 : 0 ≤ t440
                    · rw [if_pos c14] at H
                      have c14b0 := eq_true c14
                      have c14b1 : decide (0 ≤ t440) = true := decide_eq_true c14
                      clear c14
                      by_cases c15 : t440 ≤ (wrap64 (t440 + (wrap64 (t439))))
                      · rw [if_pos c15] at H
                        have c15b0 := eq_true c15
                        have c15b1 : decide (t440 ≤ (wrap64 (t440 + (wrap64 (t439))))) = true := decide_eq_true c15
                        by_cases c16 : (wrap64 (t440 + (wrap64 (t439)))) ≤ (x9_1.length : Int)
                        · rw [if_pos c16] at H
                          have c16b0 := eq_true c16
                          have c16b1 : decide ((wrap64 (t440 + (wrap64 (t439)))) ≤ (x9_1.length : Int)) = true := decide_eq_true c16
                          obtain ⟨y442, hy442⟩ : ∃ y_ : List Int, y_ = ((x9_1.take ((wrap64 (t440 + (wrap64 (t439)))) : Int).toNat).drop (t440 : Int).toNat) := ⟨_, rfl⟩
                          replace H : (if x10_1.length < 8796093022208 then (if 0 ≤ (wrap64 (t440 + (wrap64 (t439)))) then (column_getTexts.l0 k1 l0 a1 t431 (x9_1.drop ((wrap64 (t440 + (wrap64 (t439)))) : Int).toNat) (x10_1 ++ [strOfNums y442]) t431 (IntKind.u64.wrap (x37_1 + 1))) else (none)) else (none)) = some (r1, r2) := by first | (rw [hy442]; with_reducible exact H) | (have H2_ := (Option.bind_some _ _).symm.trans H; rw [hy442]; with_reducible exact H2_) | (have H2_ := (Option.bind_some _ _).symm.trans H; with_reducible exact H2_) | with_reducible exact H | (rw [hy442]; exact H) | exact H
                          have Ny442 := Aside0.mk hy442
                          clear hy442
                          by_cases c17 : x10_1.length < 8796093022208
                          · rw [if_pos c17] at H
                            have LMc17 := Aside0.mk c17
                            clear c17
                            obtain ⟨y447, hy447⟩ : ∃ y_ : List ByteArray, y_ = (x10_1 ++ [strOfNums y442]) := ⟨_, rfl⟩
                            replace H : (if 0 ≤ (wrap64 (t440 + (wrap64 (t439)))) then (column_getTexts.l0 k1 l0 a1 t431 (x9_1.drop ((wrap64 (t440 + (wrap64 (t439)))) : Int).toNat) y447 t431 (IntKind.u64.wrap (x37_1 + 1))) else (none)) = some (r1, r2) := by first | (rw [hy447]; with_reducible exact H) | (have H2_ := (Option.bind_some _ _).symm.trans H; rw [hy447]; with_reducible exact H2_) | (have H2_ := (Option.bind_some _ _).symm.trans H; with_reducible exact H2_) | with_reducible exact H | (rw [hy447]; exact H) | exact H
                            have Ny447 := Aside0.mk hy447
                            clear hy447
                            obtain ⟨ji18, hji18⟩ : ∃ j_ : Int, (wrap64 (t440 + (wrap64 (t439)))) = j_ := ⟨_, rfl⟩
                            replace H : (if 0 ≤ (ji18) then (column_getTexts.l0 k1 l0 a1 t431 (x9_1.drop ((ji18) : Int).toNat) y447 t431 (IntKind.u64.wrap (x37_1 + 1))) else (none)) = some (r1, r2) := by first | (rw [hji18] at H; exact H) | (simp only [hji18] at H ⊢; exact H)
                            (try rw [hji18] at c15b0)
                            (try rw [hji18] at c15b1)
                            (try rw [hji18] at c15)
                            (try rw [hji18] at c16b0)
                            (try rw [hji18] at c16b1)
                            (try rw [hji18] at c16)
                            (try rw [hji18] at A10)
                            (try rw [hji18] at Ny442)
                            (try rw [hji18] at Ny442)
                            have hji18w : (IntKind.i64.wrap (t440 + (wrap64 (t439)))) = ji18 := (i64_w _).trans hji18
                            by_cases c19 : 0 ≤ (ji18)
                            · rw [if_pos c19] at H
                              have c19b0 := eq_true c19
                              have c19b1 : decide (0 ≤ (ji18)) = true := decide_eq_true c19
                              clear c19
                              have c20b0 := eq_true (of_decide_eq_true (by first | (with_reducible assumption) | assumption) : (ji18) ≤ (x9_1.length : Int))
                              obtain ⟨y450, hy450⟩ : ∃ y_ : List Int, y_ = (x9_1.drop ((ji18) : Int).toNat) := ⟨_, rfl⟩
                              replace H : (column_getTexts.l0 k1 l0 a1 t431 y450 y447 t431 (IntKind.u64.wrap (x37_1 + 1))) = some (r1, r2) := by first | (rw [hy450]; with_reducible exact H) | (have H2_ := (Option.bind_some _ _).symm.trans H; rw [hy450]; with_reducible exact H2_) | (have H2_ := (Option.bind_some _ _).symm.trans H; with_reducible exact H2_) | with_reducible exact H | (rw [hy450]; exact H) | exact H
                              have Ny450 := Aside0.mk hy450
                              clear hy450
                              have H' := Aside0.mk H
                              clear H
                              obtain ⟨Ao21, co21, eo21⟩ := Kd.V_slice HO_9.out
                              subst eo21
                              go_wp2_with (first | ((with_reducible refine gate_callee (f := 126) rfl ?_); refine goesL_ (some 41) rfl rfl Try.func126 (by kernel_rfl) rfl #[.slice Ao21 x9_1.length co21] rfl (by (try simp only [List.map_toArray, List.map_cons, List.map_nil]); first | done | rfl | (simp only [List.length_drop, List.length_take]; rfl)) ?_; (with_reducible refine (varint_Get.calls k1 _ _ x9_1 t439 t440 t441 _ ?side1 ?side2 A10.out).mono ?_); (case side1 => repeat (first | exact (Kd.V_reads' HO_9.out).2.2 | (with_reducible refine Kd.C_alloc ?_ _) | (with_reducible refine Kd.C_drewN ?_ _) | (with_reducible refine Kd.C_drew ?_))); (case side2 => exact (Kd.V_reads' HO_9.out).2.1); rintro e w' ⟨rfl, ⟨nd, rfl⟩⟩; refine ⟨_, rfl, ?_⟩; have q22 : ((ji18) : Int) ≤ ((x9_1.length : Int) : Int) := of_decide_eq_true (by first | (with_reducible assumption) | assumption); obtain ⟨i022, hi022, _, hsz22, _⟩ := info_parts info5; have hroom22 : x9_1.length ≤ co21 := (Kd.V_reads' HO_9.out).2.1; have hC22 : Kd.F (Kd.int .u8) _ _ Ao21 x9_1.length x9_1 := (Kd.V_at (base := w.heap.size) HO_9.out).2.2; have ql22 : (t440 : Int) ≤ ((ji18) : Int) := of_decide_eq_true (by first | (with_reducible assumption) | assumption); have q022 : (0 : Int) ≤ (t440 : Int) := of_decide_eq_true (by first | (with_reducible assumption) | assumption); have hcut22 := Go.Proofs.YtlmcefhpnfoahaaW.PrintWords.cut_mid (P := Try.prog) 22 5 .i64 .i64 Try.underlying22 hi022 1 hsz22 Ao21 x9_1.length co21 t440 (ji18) q022 ql22 q22 hroom22; have hr22 := Kd.F_mid (lo := (t440 : Int).toNat) (hi := ((ji18) : Int).toNat) (c := co21) hC22 (by omega) (by omega) hroom22; obtain ⟨A22, hA22⟩ : ∃ A1, A1 = (if co21 = (t440 : Int).toNat then Ao21 else (Ao21 : Option Addr).map (·.add ((t440 : Int).toNat * 1))) := ⟨_, rfl⟩; obtain ⟨c22, hc22⟩ : ∃ c1, c1 = co21 - (t440 : Int).toNat := ⟨_, rfl⟩; have hy22 : y442.length = ((ji18) : Int).toNat - (t440 : Int).toNat := (by rw [Ny442.out, List.length_drop, List.length_take] <;> omega); rw [show ((x9_1).take ((ji18) : Int).toNat).drop (t440 : Int).toNat = y442 from Ny442.out.symm] at hr22; replace hr22 : Kd.F (Kd.int .u8) _ _ A22 y442.length y442 := (by rw [hA22]; exact hr22); rw [← hy22, ← hA22, ← hc22] at hcut22; have HO446 := Aside0.mk (show Kd.V (Kd.int .u8) 5 _ w.heap.size _ (.slice A22 y442.length c22) y442 from Kd.V_mk (by rw [hy22, hc22]; exact Nat.sub_le_sub_right (Nat.le_trans (by omega) hroom22) _) hr22); have HC446 := Aside0.mk (show y442.length ≤ c22 from by rw [hy22, hc22]; exact Nat.sub_le_sub_right (Nat.le_trans (by omega) hroom22) _); clear hr22 hC22 hroom22 hi022 hsz22 hc22; have KY22 := Aside0.mk hy22; have KA22 := Aside0.mk hA22; clear hy22 hA22; replace q22 := eq_true q22; have hcv23 := fun q : Nat => Kd.C_string (P := Try.prog) (c := c22) Try.underlying22 Try.underlying5 Try.underlying9 (Kd.C_drewN (Kd.V_reads' HO446.out).2.2 q)) | ((with_reducible refine gate_builtin (b := .append) (xs := #[.tmp 57, .tmp 66]) rfl ?_); at_builtin; refine Kd.R_append Kd.string (w0 := w) w.heap.size rfl (.tmp 57) (.tmp 66) 151 9 (.string ⟨#[]⟩) 16 rfl Try.underlying151 info9 rfl (by decide) (by omega) u10 x10_1 (strOfNums y442) [.string (strOfNums y442)] (fun k_ => (w.heap.size ≤ k_)) (fun _ => False) rfl rfl ?aP (fun _ hk => hk.elim) ?aF ?aO ?aB ?aS ?aL ?_; (case aP => exact rfl); (case aB => exact (by repeat (first | (with_reducible first | exact HB.out | apply below_alloc | apply pw_below_drewN | apply below_drew1) | exact HB.out))); (case aF => exact (fun k_ hk => (Nat.le_trans (below_size (by repeat (first | (with_reducible first | exact HB.out | apply below_alloc | apply pw_below_drewN | apply below_drew1) | exact HB.out))) hk))); (case aO => exact (by (with_reducible repeat (first | apply Kd.R_alloc | apply Kd.R_drewN | apply Kd.R_drew)); exact HO_10.out)); (case aS => exact (below_size (by repeat (first | (with_reducible first | exact HB.out | apply below_alloc | apply pw_below_drewN | apply below_drew1) | exact HB.out)))); (case aL => have := LMc17.out; omega); intro v448 w24 ho hb hg hat; rw [← Ny447.out] at ho; have n0_ := Aside0.mk (Kd.V_afterv (ok := (fun k_ => (P0_ k_ ∨ w.heap.size ≤ k_))) (by (with_reducible repeat (first | apply Kd.V_alloc | apply Kd.V_drewN | apply Kd.V_drew)); exact HO_0.out) hg hat); have n1_ := Aside0.mk (Kd.V_afterv (ok := (fun k_ => (P0_ k_ ∨ w.heap.size ≤ k_))) (by (with_reducible repeat (first | apply Kd.V_alloc | apply Kd.V_drewN | apply Kd.V_drew)); exact HO_9.out) hg hat); have n2_ := Aside0.mk (Kd.V_afterv (ok := (fun k_ => (P0_ k_ ∨ w.heap.size ≤ k_))) (by (with_reducible repeat (first | apply Kd.V_alloc | apply Kd.V_drewN | apply Kd.V_drew)); exact HO446.out) hg hat); have n3_ := Aside0.mk (hb); have n4_ := Aside0.mk (ho); clear HO_0; clear HO_9; clear HO446; clear HB; clear HO_10; have HO_0 := n0_; have HO_9 := n1_; have HO446 := n2_; have HB := n3_; have HO449 := n4_; clear n0_ n1_ n2_ n3_ n4_; clear ho hb hg hat; have q25 : ((ji18) : Int) ≤ ((x9_1.length : Int) : Int) := of_decide_eq_true (by first | (with_reducible assumption) | assumption); obtain ⟨i025, hi025, _, hsz25, _⟩ := info_parts info5; have hroom25 : x9_1.length ≤ co21 := (Kd.V_reads' HO_9.out).2.1; have hC25 : Kd.F (Kd.int .u8) _ _ Ao21 x9_1.length x9_1 := (Kd.V_at (base := w.heap.size) HO_9.out).2.2; have q025 : (0 : Int) ≤ ((ji18) : Int) := of_decide_eq_true (by first | (with_reducible assumption) | assumption); have hcut25 := Go.Proofs.YtlmcefhpnfoahaaW.PrintWords.cut_from (P := Try.prog) 22 5 .i64 Try.underlying22 hi025 1 hsz25 Ao21 x9_1.length co21 (ji18) q025 q25; have hr25 := Kd.F_cut (m := ((ji18) : Int).toNat) (c := co21) hC25 (by omega) hroom25; obtain ⟨A25, hA25⟩ : ∃ A1, A1 = (if co21 = ((ji18) : Int).toNat then Ao21 else (Ao21 : Option Addr).map (·.add (((ji18) : Int).toNat * 1))) := ⟨_, rfl⟩; obtain ⟨c25, hc25⟩ : ∃ c1, c1 = co21 - ((ji18) : Int).toNat := ⟨_, rfl⟩; have hy25 : y450.length = x9_1.length - ((ji18) : Int).toNat := (by rw [Ny450.out, List.length_drop] <;> omega); rw [show (x9_1).drop ((ji18) : Int).toNat = y450 from Ny450.out.symm] at hr25; replace hr25 : Kd.F (Kd.int .u8) _ _ A25 y450.length y450 := (by rw [hA25]; exact hr25); rw [← hy25, ← hA25, ← hc25] at hcut25; have HO454 := Aside0.mk (show Kd.V (Kd.int .u8) 5 _ w.heap.size _ (.slice A25 y450.length c25) y450 from Kd.V_mk (by rw [hy25, hc25]; exact Nat.sub_le_sub_right hroom25 _) hr25); have HC454 := Aside0.mk (show y450.length ≤ c25 from by rw [hy25, hc25]; exact Nat.sub_le_sub_right hroom25 _); clear hr25 hC25 hroom25 hi025 hsz25 hc25; have KY25 := Aside0.mk hy25; have KA25 := Aside0.mk hA25; clear hy25 hA25; replace q25 := eq_true q25))
                              go_roundg k1
                              case measure => have := HK1.out; omega
                              case rel => exact ⟨(y450), (y447), (IntKind.u64.wrap (x37_1 + 1)), (by first | rfl | (simp; done) | (simp [*]; done)), H', ⟨by have := HK1.out; omega⟩, ⟨by (with_reducible repeat (first | apply Kd.V_alloc | apply Kd.V_drewN | apply Kd.V_drew)); exact HO_0.out⟩, ⟨by (with_reducible repeat (first | apply Kd.V_alloc | apply Kd.V_drewN | apply Kd.V_drew)); exact HO454.out⟩, ⟨by (with_reducible repeat (first | apply Kd.R_alloc | apply Kd.R_drewN | apply Kd.R_drew)); exact HO449.out⟩, ⟨by repeat (first | (with_reducible first | exact HB.out | apply below_alloc | apply pw_below_drewN | apply below_drew1) | exact HB.out)⟩⟩
                            · rw [if_neg c19] at H
                              exact absurd H (by simp)
                          · rw [if_neg c17] at H
                            exact absurd H (by simp)
                        · rw [if_neg c16] at H
                          exact absurd H (by simp)
                      · rw [if_neg c15] at H
                        exact absurd H (by simp)
                    · rw [if_neg c14] at H
                      exact absurd H (by simp)
                · rw [if_neg c11] at H
                  have c11b0 : (t441 == 0) = false := beq_eq_false_iff_ne.mpr c11
                  have c11b1 : (t441 != 0) = true := bne_iff_ne.mpr c11
                  simp only [Option.some.injEq, Prod.mk.injEq] at H
                  obtain ⟨rfl, rfl⟩ := H
                  obtain ⟨Ao26, co26, eo26⟩ := Kd.V_slice HO_9.out
                  subst eo26
                  go_wp2_with (first | ((with_reducible refine gate_callee (f := 126) rfl ?_); refine goesL_ (some 41) rfl rfl Try.func126 (by kernel_rfl) rfl #[.slice Ao26 x9_1.length co26] rfl (by (try simp only [List.map_toArray, List.map_cons, List.map_nil]); first | done | rfl | (simp only [List.length_drop, List.length_take]; rfl)) ?_; (with_reducible refine (varint_Get.calls k1 _ _ x9_1 t439 t440 t441 _ ?side1 ?side2 A10.out).mono ?_); (case side1 => repeat (first | exact (Kd.V_reads' HO_9.out).2.2 | (with_reducible refine Kd.C_alloc ?_ _) | (with_reducible refine Kd.C_drewN ?_ _) | (with_reducible refine Kd.C_drew ?_))); (case side2 => exact (Kd.V_reads' HO_9.out).2.1); rintro e w' ⟨rfl, ⟨nd, rfl⟩⟩; refine ⟨_, rfl, ?_⟩))
                  go_ret2
                  exact ⟨_, by first | rfl | (simp [errW_none, errW_some] <;> rfl) | (simp [*, errW_none, errW_some] <;> rfl), by first | exact Kd.R_nil _ _ _ _ _ | exact Kd.N_nil _ _ _ _ _ | exact Kd.V_nil _ _ _ _ _ | exact Kd.Q_nil _ _ _ _ _ | exact Kd.S_nil _ _ _ _ _, by repeat (first | (with_reducible first | exact HB.out | apply below_alloc | apply pw_below_drewN | apply below_drew1) | exact HB.out)⟩
              · rw [if_neg c9] at H
                have c9b0 : decide (x37_1 < t431) = false := decide_eq_false c9
                clear c9
                have H' := Aside0.mk H
                clear H
                go_wp2
                go_loopg [9, 14, 76] k1 (fun kq v9 v14 v76 w' => ∃ (x9_2 : List Int) (x14_2 : List (S39)) (x76_2 : Int), v76 = .int .i64 x76_2 ∧ Aside0 (column_getTexts.l1 kq l0 t431 x9_2 x10_1 x14_2 a1 x76_2 = some (r1, r2)) ∧ Aside0 (kq ≤ k1) ∧ Aside0 (Kd.V (Kd.int .u8) 5 w' w.heap.size (fun k_ => (P0_ k_ ∨ w.heap.size ≤ k_) ∧ some k_ ≠ (u10 : Value).ownBlock ∧ some k_ ≠ (v14 : Value).ownBlock) (.slice A0 l0.length c0) l0) ∧ Aside0 (Kd.V (Kd.int .u8) 5 w' w.heap.size (fun k_ => (P0_ k_ ∨ w.heap.size ≤ k_) ∧ some k_ ≠ (u10 : Value).ownBlock ∧ some k_ ≠ (v14 : Value).ownBlock) v9 x9_2) ∧ Aside0 (Kd.R Kd.string 9 w' w.heap.size (fun k_ => (w.heap.size ≤ k_)) u10 x10_1) ∧ Aside0 (Kd.R k39 39 w' w.heap.size (fun k_ => (w.heap.size ≤ k_)) v14 x14_2) ∧ Aside0 (Below w.heap.size w w'))
                case atStart => exact ⟨(x9_1), (([] : List (S39))), (0), (by first | rfl | (simp; done) | (simp [*]; done)), H', ⟨Nat.le_refl _⟩, ⟨by (with_reducible repeat (first | apply Kd.V_alloc | apply Kd.V_drewN | apply Kd.V_drew)); exact Kd.V_mono HO_0.out (fun _ hk => ⟨hk.1, ⟨hk.2, (by simp [Value.ownBlock])⟩⟩)⟩, ⟨by (with_reducible repeat (first | apply Kd.V_alloc | apply Kd.V_drewN | apply Kd.V_drew)); exact Kd.V_mono HO_9.out (fun _ hk => ⟨hk.1, ⟨hk.2, (by simp [Value.ownBlock])⟩⟩)⟩, ⟨by (with_reducible repeat (first | apply Kd.R_alloc | apply Kd.R_drewN | apply Kd.R_drew)); exact HO_10.out⟩, ⟨by first | exact Kd.R_nil _ _ _ _ _ | exact Kd.N_nil _ _ _ _ _ | exact Kd.V_nil _ _ _ _ _ | exact Kd.Q_nil _ _ _ _ _ | exact Kd.S_nil _ _ _ _ _⟩, ⟨by repeat (first | (with_reducible first | exact HB.out | apply below_alloc | apply pw_below_drewN | apply below_drew1) | exact HB.out)⟩⟩
                case round =>
                  clear H'
                  try clear c1
                  try clear c2
                  try clear p2
                  try clear q2
                  try clear hcv2
                  try clear c4
                  try clear c4b0
                  try clear c4b1
                  try clear c5
                  try clear c5b0
                  try clear c6
                  try clear c6b0
                  try clear c6b1
                  try clear p6
                  try clear c7
                  try clear c7b0
                  try clear c7b1
                  try clear c8
                  try clear q8
                  try clear c9
                  try clear c9b0
                  try clear c11
                  try clear c11b0
                  try clear c11b1
                  try clear c12
                  try clear c12b0
                  try clear c13
                  try clear c14
                  try clear c14b0
                  try clear c14b1
                  try clear c15
                  try clear c15b0
                  try clear c15b1
                  try clear c16
                  try clear c16b0
                  try clear c16b1
                  try clear c17
                  try clear c19
                  try clear c19b0
                  try clear c19b1
                  try clear c20
                  try clear c20b0
                  try clear c22
                  try clear q22
                  try clear hcv23
                  try clear c25
                  try clear q25
                  try clear p2
                  try clear q022
                  try clear q025
                  try clear q08
                  try clear q22
                  try clear q25
                  try clear q8
                  obtain ⟨x9_2, x14_2, x76_2, rfl, HA, HK2, HO_0, HO_9, HO_10, HO_14, HB⟩ := hrel
                  cases gk with
                  | zero => exact absurd HA.out (by simp [column_getTexts.l1])
                  | succ k2 =>
                    have H := HA.out
                    clear HA
                    simp only [column_getTexts.l1] at H
                    by_cases c27 : x76_2 < a1
                    · rw [if_pos c27] at H
                      have c27b0 : decide (x76_2 < a1) = true := decide_eq_true c27
                      clear c27
                      replace H := Option.bind_eq_some_iff.mp H
                      obtain ⟨⟨t455, t456, t457⟩, A280, H⟩ := H
                      replace H : (if t457 = 0 then (if t455 ≥ t431 then (some (([] : List (S39)), 21)) else (if 0 ≤ t455 then (if t455 < (x10_1.length : Int) then (if x14_2.length < 4398046511104 then (if 0 ≤ t456 then (if t456 ≤ (x9_2.length : Int) then (column_getTexts.l1 k2 l0 t431 (x9_2.drop (t456 : Int).toNat) x10_1 (x14_2 ++ [(⟨3, 0, rdOf ByteArray.empty x10_1 t455⟩ : S39)]) a1 (wrap64 (x76_2 + 1))) else (none)) else (none)) else (none)) else (none)) else (none))) else (some (([] : List (S39)), t457))) = some (r1, r2) := H
                      have A28 := Aside0.mk A280
                      clear A280
                      by_cases c29 : t457 = 0
                      · rw [if_pos c29] at H
                        have c29b0 : (t457 == 0) = true := beq_iff_eq.mpr c29
                        have c29b1 : (t457 != 0) = false := bne_eq_false_iff_eq.mpr c29
                        clear c29
                        by_cases c30 : t455 ≥ t431
                        · rw [if_pos c30] at H
                          have c30b0 : decide (t431 ≤ t455) = true := decide_eq_true c30
                          clear c30
                          simp only [Option.some.injEq, Prod.mk.injEq] at H
                          obtain ⟨rfl, rfl⟩ := H
                          obtain ⟨Ao31, co31, eo31⟩ := Kd.V_slice HO_9.out
                          subst eo31
                          go_wp2_with (first | ((with_reducible refine gate_callee (f := 126) rfl ?_); refine goesL_ (some 80) rfl rfl Try.func126 (by kernel_rfl) rfl #[.slice Ao31 x9_2.length co31] rfl (by (try simp only [List.map_toArray, List.map_cons, List.map_nil]); first | done | rfl | (simp only [List.length_drop, List.length_take]; rfl)) ?_; (with_reducible refine (varint_Get.calls k2 _ _ x9_2 t455 t456 t457 _ ?side1 ?side2 A28.out).mono ?_); (case side1 => repeat (first | exact (Kd.V_reads' HO_9.out).2.2 | (with_reducible refine Kd.C_alloc ?_ _) | (with_reducible refine Kd.C_drewN ?_ _) | (with_reducible refine Kd.C_drew ?_))); (case side2 => exact (Kd.V_reads' HO_9.out).2.1); rintro e w' ⟨rfl, ⟨nd, rfl⟩⟩; refine ⟨_, rfl, ?_⟩))
                          go_ret2
                          exact ⟨_, by first | rfl | (simp [errW_none, errW_some] <;> rfl) | (simp [*, errW_none, errW_some] <;> rfl), by first | exact Kd.R_nil _ _ _ _ _ | exact Kd.N_nil _ _ _ _ _ | exact Kd.V_nil _ _ _ _ _ | exact Kd.Q_nil _ _ _ _ _ | exact Kd.S_nil _ _ _ _ _, by repeat (first | (with_reducible first | exact HB.out | apply below_alloc | apply pw_below_drewN | apply below_drew1) | exact HB.out)⟩
                        · rw [if_neg c30] at H
                          have c30b0 : decide (t431 ≤ t455) = false := decide_eq_false c30
                          clear c30
                          by_cases c32 : 0 ≤ t455
                          · rw [if_pos c32] at H
                            have c32b0 : decide (0 ≤ t455) = true := decide_eq_true c32
                            clear c32
                            by_cases c33 : t455 < (x10_1.length : Int)
                            · rw [if_pos c33] at H
                              have c33b0 : decide (t455 < (x10_1.length : Int)) = true := decide_eq_true c33
                              clear c33
                              by_cases c34 : x14_2.length < 4398046511104
                              · rw [if_pos c34] at H
                                have LMc34 := Aside0.mk c34
                                clear c34
                                obtain ⟨y459, hy459⟩ : ∃ y_ : List (S39), y_ = (x14_2 ++ [(⟨3, 0, rdOf ByteArray.empty x10_1 t455⟩ : S39)]) := ⟨_, rfl⟩
                                replace H : (if 0 ≤ t456 then (if t456 ≤ (x9_2.length : Int) then (column_getTexts.l1 k2 l0 t431 (x9_2.drop (t456 : Int).toNat) x10_1 y459 a1 (wrap64 (x76_2 + 1))) else (none)) else (none)) = some (r1, r2) := by first | (rw [hy459]; with_reducible exact H) | (have H2_ := (Option.bind_some _ _).symm.trans H; rw [hy459]; with_reducible exact H2_) | (have H2_ := (Option.bind_some _ _).symm.trans H; with_reducible exact H2_) | with_reducible exact H | (rw [hy459]; exact H) | exact H
                                have Ny459 := Aside0.mk hy459
                                clear hy459
                                by_cases c35 : 0 ≤ t456
                                · rw [if_pos c35] at H
                                  have c35b0 := eq_true c35
                                  have c35b1 : decide (0 ≤ t456) = true := decide_eq_true c35
                                  clear c35
                                  by_cases c36 : t456 ≤ (x9_2.length : Int)
                                  · rw [if_pos c36] at H
                                    have c36b0 := eq_true c36
                                    have c36b1 : decide (t456 ≤ (x9_2.length : Int)) = true := decide_eq_true c36
                                    clear c36
                                    obtain ⟨y462, hy462⟩ : ∃ y_ : List Int, y_ = (x9_2.drop (t456 : Int).toNat) := ⟨_, rfl⟩
                                    replace H : (column_getTexts.l1 k2 l0 t431 y462 x10_1 y459 a1 (wrap64 (x76_2 + 1))) = some (r1, r2) := by first | (rw [hy462]; with_reducible exact H) | (have H2_ := (Option.bind_some _ _).symm.trans H; rw [hy462]; with_reducible exact H2_) | (have H2_ := (Option.bind_some _ _).symm.trans H; with_reducible exact H2_) | with_reducible exact H | (rw [hy462]; exact H) | exact H
                                    have Ny462 := Aside0.mk hy462
                                    clear hy462
                                    have H' := Aside0.mk H
                                    clear H
                                    obtain ⟨Ao37, co37, eo37⟩ := Kd.V_slice HO_9.out
                                    subst eo37
                                    try go_wp2_with (first | ((with_reducible refine gate_callee (f := 126) rfl ?_); refine goesL_ (some 80) rfl rfl Try.func126 (by kernel_rfl) rfl #[.slice Ao37 x9_2.length co37] rfl (by (try simp only [List.map_toArray, List.map_cons, List.map_nil]); first | done | rfl | (simp only [List.length_drop, List.length_take]; rfl)) ?_; (with_reducible refine (varint_Get.calls k2 _ _ x9_2 t455 t456 t457 _ ?side1 ?side2 A28.out).mono ?_); (case side1 => repeat (first | exact (Kd.V_reads' HO_9.out).2.2 | (with_reducible refine Kd.C_alloc ?_ _) | (with_reducible refine Kd.C_drewN ?_ _) | (with_reducible refine Kd.C_drew ?_))); (case side2 => exact (Kd.V_reads' HO_9.out).2.1); rintro e w' ⟨rfl, ⟨nd, rfl⟩⟩; refine ⟨_, rfl, ?_⟩))
                                    (try (rw [drewN_self wr]; generalize hq_ : World.drewN wr _ = wr; have n0_ : Aside0 (Kd.V (Kd.int .u8) 5 wr w.heap.size (fun k_ => (P0_ k_ ∨ w.heap.size ≤ k_) ∧ some k_ ≠ (u10 : Value).ownBlock ∧ some k_ ≠ (u14 : Value).ownBlock) (.slice A0 l0.length c0) l0) := ⟨by rw [← hq_]; exact (by (with_reducible repeat (first | apply Kd.V_alloc | apply Kd.V_drewN | apply Kd.V_drew)); exact HO_0.out)⟩; have n1_ : Aside0 (Kd.R Kd.string 9 wr w.heap.size (fun k_ => (w.heap.size ≤ k_)) u10 x10_1) := ⟨by rw [← hq_]; exact (by (with_reducible repeat (first | apply Kd.R_alloc | apply Kd.R_drewN | apply Kd.R_drew)); exact HO_10.out)⟩; have n2_ : Aside0 (Kd.R k39 39 wr w.heap.size (fun k_ => (w.heap.size ≤ k_)) u14 x14_2) := ⟨by rw [← hq_]; exact (by (with_reducible repeat (first | apply Kd.R_alloc | apply Kd.R_drewN | apply Kd.R_drew)); exact HO_14.out)⟩; have n3_ : Aside0 (Kd.V (Kd.int .u8) 5 wr w.heap.size (fun k_ => (P0_ k_ ∨ w.heap.size ≤ k_) ∧ some k_ ≠ (u10 : Value).ownBlock ∧ some k_ ≠ (u14 : Value).ownBlock) (.slice Ao37 x9_2.length co37) x9_2) := ⟨by rw [← hq_]; exact (by (with_reducible repeat (first | apply Kd.V_alloc | apply Kd.V_drewN | apply Kd.V_drew)); exact HO_9.out)⟩; have n4_ : Aside0 (Below w.heap.size w wr) := ⟨by rw [← hq_]; exact (by repeat (first | (with_reducible first | exact HB.out | apply below_alloc | apply pw_below_drewN | apply below_drew1) | exact HB.out))⟩; clear HO_0 HO_10 HO_14 HO_9 HB hq_; have HO_0 := n0_; have HO_10 := n1_; have HO_14 := n2_; have HO_9 := n3_; have HB := n4_; clear n0_ n1_ n2_ n3_ n4_))
                                    have n0_ := Aside0.mk (Kd.V_drew HO_0.out)
                                    have n1_ := Aside0.mk (Kd.V_drew HO_9.out)
                                    have n2_ := Aside0.mk (Kd.R_drew HO_10.out)
                                    have n3_ := Aside0.mk (Kd.R_drew HO_14.out)
                                    have n4_ := Aside0.mk (below_drew1 HB.out)
                                    clear HO_0
                                    clear HO_9
                                    clear HO_10
                                    clear HO_14
                                    clear HB
                                    have HO_0 := n0_
                                    have HO_9 := n1_
                                    have HO_10 := n2_
                                    have HO_14 := n3_
                                    have HB := n4_
                                    clear n0_ n1_ n2_ n3_ n4_
                                    obtain ⟨Ao39, co39, eo39⟩ := Kd.R_slice HO_10.out
                                    (first | subst eo39 | (injection eo39 with f1_ f2_ f3_; have f4_ := f1_.symm; have f5_ := f3_.symm; clear f1_ f2_ f3_; subst f4_; subst f5_))
                                    have p458 : 0 ≤ (t455 : Int) := of_decide_eq_true (by first | (with_reducible assumption) | assumption)
                                    have q458 : t455 < (x10_1.length : Int) := of_decide_eq_true (by first | (with_reducible assumption) | assumption)
                                    obtain ⟨ad458, e458, hx458_0⟩ := Kd.at_string (Kd.R_reads' HO_10.out).2.2 t455 p458 q458
                                    cases e458
                                    replace p458 := eq_true p458
                                    replace q458 := eq_true q458
                                    have q40 : (t456 : Int) ≤ ((x9_2.length : Int) : Int) := of_decide_eq_true (by first | (with_reducible assumption) | assumption)
                                    obtain ⟨i040, hi040, _, hsz40, _⟩ := info_parts info5
                                    have hroom40 : x9_2.length ≤ co37 := (Kd.V_reads' HO_9.out).2.1
                                    have hC40 : Kd.F (Kd.int .u8) _ _ Ao37 x9_2.length x9_2 := (Kd.V_at (base := w.heap.size) HO_9.out).2.2
                                    have q040 : (0 : Int) ≤ (t456 : Int) := of_decide_eq_true (by first | (with_reducible assumption) | assumption)
                                    have hcut40 := Go.Proofs.YtlmcefhpnfoahaaW.PrintWords.cut_from (P := Try.prog) 22 5 .i64 Try.underlying22 hi040 1 hsz40 Ao37 x9_2.length co37 t456 q040 q40
                                    have hr40 := Kd.F_cut (m := (t456 : Int).toNat) (c := co37) hC40 (by omega) hroom40
                                    obtain ⟨A40, hA40⟩ : ∃ A1, A1 = (if co37 = (t456 : Int).toNat then Ao37 else (Ao37 : Option Addr).map (·.add ((t456 : Int).toNat * 1))) := ⟨_, rfl⟩
                                    obtain ⟨c40, hc40⟩ : ∃ c1, c1 = co37 - (t456 : Int).toNat := ⟨_, rfl⟩
                                    have hy40 : y462.length = x9_2.length - (t456 : Int).toNat := (by rw [Ny462.out, List.length_drop] <;> omega)
                                    rw [show (x9_2).drop (t456 : Int).toNat = y462 from Ny462.out.symm] at hr40
                                    replace hr40 : Kd.F (Kd.int .u8) _ _ A40 y462.length y462 := (by rw [hA40]; exact hr40)
                                    rw [← hy40, ← hA40, ← hc40] at hcut40
                                    have HO466 := Aside0.mk (show Kd.V (Kd.int .u8) 5 _ w.heap.size _ (.slice A40 y462.length c40) y462 from Kd.V_mk (by rw [hy40, hc40]; exact Nat.sub_le_sub_right hroom40 _) hr40)
                                    have HC466 := Aside0.mk (show y462.length ≤ c40 from by rw [hy40, hc40]; exact Nat.sub_le_sub_right hroom40 _)
                                    clear hr40 hC40 hroom40 hi040 hsz40 hc40
                                    have KY40 := Aside0.mk hy40
                                    have KA40 := Aside0.mk hA40
                                    clear hy40 hA40
                                    replace q40 := eq_true q40
                                    refine start_ (n := 13) (S := fun w' => w'.cell? (ad458.add (t455).toNat) = some (.string (rdOf ByteArray.empty x10_1 t455))) (ds := [6, 7]) #[false, false, false, false, false, false, false, false, false, false, false, false, false] (by kernel_rfl) rfl rfl (hx458_0) (fun hHeld => ?_); refine with_tabW column_getTexts.tab26 column_getTexts.bits26 (fun HT_ HW_ => ?_)
                                    generalize wr.drew = w38 at HO_0 HO_9 HO_10 HO_14 HB HO466 hx458_0 hHeld ⊢
                                    refine pure_ (i := 0) (N := some 92) (v := ?_) (a' := ?_) #[true, false, false, false, false, false, false, false, false, false, false, false, false] rfl rfl (any_of HT_.out (by kernel_rfl)) (fun _ _ _ h => h) (Or.inl ⟨by rfl, ?_⟩) ?_ ?_
                                    rotate_left
                                    · intro w'
                                      go_simp
                                      with_reducible rfl
                                    rotate_left
                                    · simp only [Act.put, List.setIfInBounds_toArray, List.set_cons_zero, List.set_cons_succ, i64_w, i32_w]
                                      rfl
                                    refine pure_ (i := 1) (N := some 93) (v := ?_) (a' := ?_) #[true, true, false, false, false, false, false, false, false, false, false, false, false] rfl rfl (any_of HT_.out (by kernel_rfl)) (fun _ _ _ h => h) (Or.inl ⟨by rfl, ?_⟩) ?_ ?_
                                    rotate_left
                                    · intro w'
                                      go_simp
                                      with_reducible rfl
                                    rotate_left
                                    · simp only [Act.put, List.setIfInBounds_toArray, List.set_cons_zero, List.set_cons_succ, i64_w, i32_w]
                                      rfl
                                    refine pure_ (i := 2) (N := some 94) (v := ?_) (a' := ?_) #[true, true, true, false, false, false, false, false, false, false, false, false, false] rfl rfl (any_of HT_.out (by kernel_rfl)) (fun _ _ _ h => h) (Or.inl ⟨by rfl, ?_⟩) ?_ ?_
                                    rotate_left
                                    · intro w'
                                      go_simp
                                      with_reducible rfl
                                    rotate_left
                                    · simp only [Act.put, List.setIfInBounds_toArray, List.set_cons_zero, List.set_cons_succ, i64_w, i32_w]
                                      rfl
                                    refine pure_ (i := 3) (N := some 95) (v := ?_) (a' := ?_) #[true, true, true, true, false, false, false, false, false, false, false, false, false] rfl rfl (any_of HT_.out (by kernel_rfl)) (fun _ _ _ h => h) (Or.inl ⟨by rfl, ?_⟩) ?_ ?_
                                    rotate_left
                                    · intro w'
                                      go_simp
                                      with_reducible rfl
                                    rotate_left
                                    · simp only [Act.put, List.setIfInBounds_toArray, List.set_cons_zero, List.set_cons_succ, i64_w, i32_w]
                                      rfl
                                    refine pure_ (i := 8) (N := some 100) (v := ?_) (a' := ?_) #[true, true, true, true, false, false, false, false, true, false, false, false, false] rfl rfl (any_of HT_.out (by kernel_rfl)) (fun _ _ _ h => h) (Or.inl ⟨by rfl, ?_⟩) ?_ ?_
                                    rotate_left
                                    · intro w'
                                      go_simp
                                      with_reducible rfl
                                    rotate_left
                                    · simp only [Act.put, List.setIfInBounds_toArray, List.set_cons_zero, List.set_cons_succ, i64_w, i32_w]
                                      rfl
                                    refine pure_ (i := 9) (N := some 101) (v := ?_) (a' := ?_) #[true, true, true, true, false, false, false, false, true, true, false, false, false] rfl rfl (any_of HT_.out (by kernel_rfl)) (fun _ _ _ h => h) (Or.inl ⟨by rfl, ?_⟩) ?_ ?_
                                    rotate_left
                                    · intro w'
                                      go_simp
                                      with_reducible rfl
                                    rotate_left
                                    · simp only [Act.put, List.setIfInBounds_toArray, List.set_cons_zero, List.set_cons_succ, i64_w, i32_w]
                                      rfl
                                    refine pure_ (i := 10) (N := some 102) (v := ?_) (a' := ?_) #[true, true, true, true, false, false, false, false, true, true, true, false, false] rfl rfl (any_of HT_.out (by kernel_rfl)) (fun _ _ _ h => h) (Or.inl ⟨by rfl, ?_⟩) ?_ ?_
                                    rotate_left
                                    · intro w'
                                      go_simp
                                      with_reducible rfl
                                    rotate_left
                                    · simp only [Act.put, List.setIfInBounds_toArray, List.set_cons_zero, List.set_cons_succ, i64_w, i32_w]
                                      rfl
                                    refine take_ (i := 4) (N := some 96) (v := ?_) (a' := ?_) #[true, true, true, true, true, false, false, false, true, true, true, false, false] rfl rfl (take_ofW HT_.out HW_.out (by kernel_rfl)) (fun _ _ _ h => h) (Or.inl ⟨by rfl, ?_⟩) hHeld ?_ ?_
                                    rotate_left
                                    · intro w' s0
                                      go_simp
                                      with_reducible rfl
                                    rotate_left
                                    · simp only [Act.put, List.setIfInBounds_toArray, List.set_cons_zero, List.set_cons_succ, i64_w, i32_w]
                                      rfl
                                    refine pure_ (i := 5) (N := some 97) (v := ?_) (a' := ?_) #[true, true, true, true, true, true, false, false, true, true, true, false, false] rfl rfl (any_of HT_.out (by kernel_rfl)) (fun _ _ _ h => h) (Or.inl ⟨by rfl, ?_⟩) ?_ ?_
                                    rotate_left
                                    · intro w'
                                      go_simp
                                      with_reducible rfl
                                    rotate_left
                                    · simp only [Act.put, List.setIfInBounds_toArray, List.set_cons_zero, List.set_cons_succ, i64_w, i32_w]
                                      rfl
                                    refine last_ (i := 6) (N := some 98) #[true, true, true, true, true, true, true, false, true, true, true, false, false] rfl rfl (one_of HT_.out (by kernel_rfl)) (by decide) (fun K hK => ?_)
                                    refine value_ (w1 := ?_) (v := ?_) (by rfl) rfl ?_ ?_
                                    rotate_left 2
                                    · go_simp
                                      constructor
                                      · rfl
                                      · rfl
                                    refine hK.out _ _ ?_
                                    clear hK K
                                    refine norm_ (a' := ?_) ?_ ?_
                                    rotate_left
                                    · show Act.put _ (some 98) _ = _
                                      simp only [Act.put, List.setIfInBounds_toArray, List.set_cons_zero, List.set_cons_succ, i64_w, i32_w]
                                      rfl
                                    refine last_ (i := 7) (N := some 99) #[true, true, true, true, true, true, true, true, true, true, true, false, false] rfl rfl (one_of HT_.out (by kernel_rfl)) (by decide) (fun K hK => ?_)
                                    refine Kd.R_append_step k39 (w0 := w) w.heap.size (by rfl) (.tmp 92) (.tmp 98) 23 39 (.agg #[(.int .u8 0), (.int .i64 0), (.string ⟨#[]⟩)]) 32 rfl Try.underlying23 info39 rfl (by decide) (by omega) u14 x14_2 (⟨3, 0, rdOf ByteArray.empty x10_1 t455⟩ : S39) [.int .u8 3, .int .i64 0, .string (rdOf ByteArray.empty x10_1 t455)] (fun k_ => (w.heap.size ≤ k_)) (fun _ => False) rfl rfl ?aP (fun _ hk => hk.elim) ?aF ?aO ?aB ?aS ?aL ?_
                                    (case aP => exact k39_mkM _ _ _ (⟨3, 0, rdOf ByteArray.empty x10_1 t455⟩ : S39))
                                    (case aB => exact (by repeat (first | (with_reducible first | exact HB.out | apply below_alloc | apply pw_below_drewN | apply below_drew1) | exact HB.out)))
                                    (case aF => exact (fun k_ hk => (Nat.le_trans (below_size (by repeat (first | (with_reducible first | exact HB.out | apply below_alloc | apply pw_below_drewN | apply below_drew1) | exact HB.out))) hk)))
                                    (case aO => exact (by (with_reducible repeat (first | apply Kd.R_alloc | apply Kd.R_drewN | apply Kd.R_drew)); exact HO_14.out))
                                    (case aS => exact (below_size (by repeat (first | (with_reducible first | exact HB.out | apply below_alloc | apply pw_below_drewN | apply below_drew1) | exact HB.out))))
                                    (case aL => have := LMc34.out; omega)
                                    intro v460 w41 ho hb hg hat
                                    rw [← Ny459.out] at ho
                                    have n0_ := Aside0.mk (Kd.V_afterv (ok := (fun k_ => (P0_ k_ ∨ w.heap.size ≤ k_) ∧ some k_ ≠ (.slice (some ad458) x10_1.length co39 : Value).ownBlock)) (by (with_reducible repeat (first | apply Kd.V_alloc | apply Kd.V_drewN | apply Kd.V_drew)); exact Kd.V_mono HO_0.out (fun _ hk => ⟨⟨hk.1, hk.2.1⟩, hk.2.2⟩)) hg hat)
                                    have n1_ := Aside0.mk (Kd.V_afterv (ok := (fun k_ => (P0_ k_ ∨ w.heap.size ≤ k_) ∧ some k_ ≠ (.slice (some ad458) x10_1.length co39 : Value).ownBlock)) (by (with_reducible repeat (first | apply Kd.V_alloc | apply Kd.V_drewN | apply Kd.V_drew)); exact Kd.V_mono HO_9.out (fun _ hk => ⟨⟨hk.1, hk.2.1⟩, hk.2.2⟩)) hg hat)
                                    have n2_ := Aside0.mk (Kd.R_over' (by (with_reducible repeat (first | apply Kd.R_alloc | apply Kd.R_drewN | apply Kd.R_drew)); exact HO_10.out) (Kd.R_typed (by (with_reducible repeat (first | apply Kd.R_alloc | apply Kd.R_drewN | apply Kd.R_drew)); exact HO_14.out)) (by decide) hg)
                                    have n3_ := Aside0.mk (Kd.V_afterv (ok := (fun k_ => (P0_ k_ ∨ w.heap.size ≤ k_) ∧ some k_ ≠ (.slice (some ad458) x10_1.length co39 : Value).ownBlock)) (by (with_reducible repeat (first | apply Kd.V_alloc | apply Kd.V_drewN | apply Kd.V_drew)); exact Kd.V_mono HO466.out (fun _ hk => ⟨⟨hk.1, hk.2.1⟩, hk.2.2⟩)) hg hat)
                                    have n4_ := Aside0.mk (hb)
                                    have n5_ := Aside0.mk (ho)
                                    clear HO_0
                                    clear HO_9
                                    clear HO_10
                                    clear HO466
                                    clear HB
                                    clear HO_14
                                    have HO_0 := n0_
                                    have HO_9 := n1_
                                    have HO_10 := n2_
                                    have HO466 := n3_
                                    have HB := n4_
                                    have HO461 := n5_
                                    clear n0_ n1_ n2_ n3_ n4_ n5_
                                    clear ho hb hg hat
                                    refine hK.out _ _ ?_
                                    clear hK K
                                    refine norm_ (a' := ?_) ?_ ?_
                                    rotate_left
                                    · show Act.put _ (some 99) _ = _
                                      simp only [Act.put, List.setIfInBounds_toArray, List.set_cons_zero, List.set_cons_succ, i64_w, i32_w]
                                      rfl
                                    refine pure_ (i := 11) (N := some 14) (v := ?_) (a' := ?_) #[true, true, true, true, true, true, true, true, true, true, true, true, false] rfl rfl (any_of HT_.out (by kernel_rfl)) (fun _ _ _ h => h) (Or.inl ⟨by rfl, ?_⟩) ?_ ?_
                                    rotate_left
                                    · intro w'
                                      go_simp
                                      with_reducible rfl
                                    rotate_left
                                    · simp only [Act.put, List.setIfInBounds_toArray, List.set_cons_zero, List.set_cons_succ, i64_w, i32_w]
                                      rfl
                                    refine pure_ (i := 12) (N := some 9) (v := ?_) (a' := ?_) #[true, true, true, true, true, true, true, true, true, true, true, true, true] rfl rfl (any_of HT_.out (by kernel_rfl)) (fun _ _ _ h => h) (Or.inl ⟨by rfl, ?_⟩) ?_ ?_
                                    rotate_left
                                    · intro w'
                                      go_simp
                                      with_reducible rfl
                                    rotate_left
                                    · simp only [Act.put, List.setIfInBounds_toArray, List.set_cons_zero, List.set_cons_succ, i64_w, i32_w]
                                      rfl
                                    refine done_ (done_of HT_.out (by kernel_rfl)) ?_
                                    try go_wp2
                                    go_roundg k2
                                    case measure => have := HK1.out; have := HK2.out; omega
                                    case rel => exact ⟨(y462), (y459), (wrap64 (x76_2 + 1)), (by first | rfl | (simp; done) | (simp [*]; done)), H', ⟨by have := HK1.out; have := HK2.out; omega⟩, ⟨by (with_reducible repeat (first | apply Kd.V_alloc | apply Kd.V_drewN | apply Kd.V_drew)); exact Kd.V_mono HO_0.out (fun _ hk => ⟨hk.1.1, ⟨hk.1.2, hk.2⟩⟩)⟩, ⟨by (with_reducible repeat (first | apply Kd.V_alloc | apply Kd.V_drewN | apply Kd.V_drew)); exact Kd.V_mono HO466.out (fun _ hk => ⟨hk.1.1, ⟨hk.1.2, hk.2⟩⟩)⟩, ⟨by (with_reducible repeat (first | apply Kd.R_alloc | apply Kd.R_drewN | apply Kd.R_drew)); exact HO_10.out⟩, ⟨by (with_reducible repeat (first | apply Kd.R_alloc | apply Kd.R_drewN | apply Kd.R_drew)); exact HO461.out⟩, ⟨by repeat (first | (with_reducible first | exact HB.out | apply below_alloc | apply pw_below_drewN | apply below_drew1) | exact HB.out)⟩⟩
                                  · rw [if_neg c36] at H
                                    exact absurd H (by simp)
                                · rw [if_neg c35] at H
                                  exact absurd H (by simp)
                              · rw [if_neg c34] at H
                                exact absurd H (by simp)
                            · rw [if_neg c33] at H
                              exact absurd H (by simp)
                          · rw [if_neg c32] at H
                            exact absurd H (by simp)
                      · rw [if_neg c29] at H
                        have c29b0 : (t457 == 0) = false := beq_eq_false_iff_ne.mpr c29
                        have c29b1 : (t457 != 0) = true := bne_iff_ne.mpr c29
                        simp only [Option.some.injEq, Prod.mk.injEq] at H
                        obtain ⟨rfl, rfl⟩ := H
                        obtain ⟨Ao42, co42, eo42⟩ := Kd.V_slice HO_9.out
                        subst eo42
                        go_wp2_with (first | ((with_reducible refine gate_callee (f := 126) rfl ?_); refine goesL_ (some 80) rfl rfl Try.func126 (by kernel_rfl) rfl #[.slice Ao42 x9_2.length co42] rfl (by (try simp only [List.map_toArray, List.map_cons, List.map_nil]); first | done | rfl | (simp only [List.length_drop, List.length_take]; rfl)) ?_; (with_reducible refine (varint_Get.calls k2 _ _ x9_2 t455 t456 t457 _ ?side1 ?side2 A28.out).mono ?_); (case side1 => repeat (first | exact (Kd.V_reads' HO_9.out).2.2 | (with_reducible refine Kd.C_alloc ?_ _) | (with_reducible refine Kd.C_drewN ?_ _) | (with_reducible refine Kd.C_drew ?_))); (case side2 => exact (Kd.V_reads' HO_9.out).2.1); rintro e w' ⟨rfl, ⟨nd, rfl⟩⟩; refine ⟨_, rfl, ?_⟩))
                        go_ret2
                        exact ⟨_, by first | rfl | (simp [errW_none, errW_some] <;> rfl) | (simp [*, errW_none, errW_some] <;> rfl), by first | exact Kd.R_nil _ _ _ _ _ | exact Kd.N_nil _ _ _ _ _ | exact Kd.V_nil _ _ _ _ _ | exact Kd.Q_nil _ _ _ _ _ | exact Kd.S_nil _ _ _ _ _, by repeat (first | (with_reducible first | exact HB.out | apply below_alloc | apply pw_below_drewN | apply below_drew1) | exact HB.out)⟩
                    · rw [if_neg c27] at H
                      have c27b0 : decide (x76_2 < a1) = false := decide_eq_false c27
                      clear c27
                      replace H := Option.bind_eq_some_iff.mp H
                      obtain ⟨t467, A430, H⟩ := H
                      replace H : ((bytes_Equal.f t467 l0).bind fun t470 => (if t470 = true then (some (x14_2, 0)) else (some (([] : List (S39)), 21)))) = some (r1, r2) := H
                      have A43 := Aside0.mk A430
                      clear A430
                      replace H := Option.bind_eq_some_iff.mp H
                      obtain ⟨t470, A440, H⟩ := H
                      replace H : (if t470 = true then (some (x14_2, 0)) else (some (([] : List (S39)), 21))) = some (r1, r2) := H
                      have A44 := Aside0.mk A440
                      clear A440
                      by_cases c45 : t470 = true
                      · subst c45
                        have H1 : (some (x14_2, 0)) = some (r1, r2) := by rw [if_pos rfl] at H; exact H
                        clear H
                        have H := H1
                        clear H1
                        simp only [Option.some.injEq, Prod.mk.injEq] at H
                        obtain ⟨rfl, rfl⟩ := H
                        obtain ⟨Ao46, co46, eo46⟩ := Kd.R_slice HO_14.out
                        subst eo46
                        go_wp2_with (first | ((with_reducible refine gate_callee (f := 137) rfl ?_); refine goesL_ (some 105) rfl rfl Try.func137 (by kernel_rfl) rfl #[.slice Ao46 x14_2.length co46] rfl (by (try simp only [List.map_toArray, List.map_cons, List.map_nil]); first | done | rfl | (simp only [List.length_drop, List.length_take]; rfl)) ?_; (with_reducible refine (column_putTexts.calls _ _ x14_2 t467 _ ?side1 ?side2 A43.out).mono ?_); (case side1 => repeat (first | exact (Kd.R_reads' HO_14.out).2.2 | (with_reducible refine Kd.C_alloc ?_ _) | (with_reducible refine Kd.C_drewN ?_ _) | (with_reducible refine Kd.C_drew ?_))); (case side2 => exact (Kd.R_reads' HO_14.out).2.1); rintro e w47 ⟨v468, rfl, ho0, hb⟩; refine ⟨_, rfl, ?_⟩; have n0_ := Aside0.mk (Kd.V_elder' (by (with_reducible repeat (first | apply Kd.V_alloc | apply Kd.V_drewN | apply Kd.V_drew)); exact HO_0.out) (Kd.R_base ho0) hb); have n1_ := Aside0.mk (Kd.V_elder' (by (with_reducible repeat (first | apply Kd.V_alloc | apply Kd.V_drewN | apply Kd.V_drew)); exact HO_9.out) (Kd.R_base ho0) hb); have n2_ := Aside0.mk (Kd.R_below (by (with_reducible repeat (first | apply Kd.R_alloc | apply Kd.R_drewN | apply Kd.R_drew)); exact HO_10.out) hb); have n3_ := Aside0.mk (Kd.R_below (by (with_reducible repeat (first | apply Kd.R_alloc | apply Kd.R_drewN | apply Kd.R_drew)); exact HO_14.out) hb); have n4_ := Aside0.mk (Kd.R_lower (Kd.R_newM (M := fun k_ => (w.heap.size ≤ k_)) ho0 (below_size (by repeat (first | (with_reducible first | exact HB.out | apply below_alloc | apply pw_below_drewN | apply below_drew1) | exact HB.out))) (fun k_ h_ => h_)) (below_size (by repeat (first | (with_reducible first | exact HB.out | apply below_alloc | apply pw_below_drewN | apply below_drew1) | exact HB.out)))); have n5_ := Aside0.mk (below_step (by repeat (first | (with_reducible first | exact HB.out | apply below_alloc | apply pw_below_drewN | apply below_drew1) | exact HB.out)) hb); clear HO_0; clear HO_9; clear HO_10; clear HO_14; clear HB; have HO_0 := n0_; have HO_9 := n1_; have HO_10 := n2_; have HO_14 := n3_; have HO469 := n4_; have HB := n5_; clear n0_ n1_ n2_ n3_ n4_ n5_; (try clear hb); (try clear hb2); (try clear hk); (try clear hi); (try clear ho0); obtain ⟨Ao48, co48, eo48⟩ := Kd.R_slice HO469.out; subst eo48) | ((with_reducible refine gate_callee (f := 143) rfl ?_); refine goesL_ (some 107) rfl rfl Try.func143 (by kernel_rfl) rfl #[.slice Ao48 t467.length co48, .slice A0 l0.length c0] rfl (by (try simp only [List.map_toArray, List.map_cons, List.map_nil]); first | done | rfl | (simp only [List.length_drop, List.length_take]; rfl)) ?_; (with_reducible refine (bytes_Equal.calls _ _ t467 _ _ l0 true _ ?side1 ?side2 ?side3 ?side4 A44.out).mono ?_); (case side1 => repeat (first | exact (Kd.R_reads' HO469.out).2.2 | (with_reducible refine Kd.C_alloc ?_ _) | (with_reducible refine Kd.C_drewN ?_ _) | (with_reducible refine Kd.C_drew ?_))); (case side2 => exact (Kd.R_reads' HO469.out).2.1); (case side3 => repeat (first | exact (Kd.V_reads' HO_0.out).2.2 | (with_reducible refine Kd.C_alloc ?_ _) | (with_reducible refine Kd.C_drewN ?_ _) | (with_reducible refine Kd.C_drew ?_))); (case side4 => exact (Kd.V_reads' HO_0.out).2.1); rintro e w' ⟨rfl, ⟨nd, rfl⟩⟩; refine ⟨_, rfl, ?_⟩))
                        go_ret2
                        exact ⟨_, by first | rfl | (simp [errW_none, errW_some] <;> rfl) | (simp [*, errW_none, errW_some] <;> rfl), by (with_reducible repeat (first | apply Kd.R_alloc | apply Kd.R_drewN | apply Kd.R_drew)); exact HO_14.out, by repeat (first | (with_reducible first | exact HB.out | apply below_alloc | apply pw_below_drewN | apply below_drew1) | exact HB.out)⟩
                      · replace c45 := Bool.eq_false_iff.mpr c45
                        subst c45
                        have H1 : (some (([] : List (S39)), 21)) = some (r1, r2) := by rw [if_neg (show ¬ (false = true) by decide)] at H; exact H
                        clear H
                        have H := H1
                        clear H1
                        simp only [Option.some.injEq, Prod.mk.injEq] at H
                        obtain ⟨rfl, rfl⟩ := H
                        obtain ⟨Ao49, co49, eo49⟩ := Kd.R_slice HO_14.out
                        subst eo49
                        go_wp2_with (first | ((with_reducible refine gate_callee (f := 137) rfl ?_); refine goesL_ (some 105) rfl rfl Try.func137 (by kernel_rfl) rfl #[.slice Ao49 x14_2.length co49] rfl (by (try simp only [List.map_toArray, List.map_cons, List.map_nil]); first | done | rfl | (simp only [List.length_drop, List.length_take]; rfl)) ?_; (with_reducible refine (column_putTexts.calls _ _ x14_2 t467 _ ?side1 ?side2 A43.out).mono ?_); (case side1 => repeat (first | exact (Kd.R_reads' HO_14.out).2.2 | (with_reducible refine Kd.C_alloc ?_ _) | (with_reducible refine Kd.C_drewN ?_ _) | (with_reducible refine Kd.C_drew ?_))); (case side2 => exact (Kd.R_reads' HO_14.out).2.1); rintro e w50 ⟨v468, rfl, ho0, hb⟩; refine ⟨_, rfl, ?_⟩; have n0_ := Aside0.mk (Kd.V_elder' (by (with_reducible repeat (first | apply Kd.V_alloc | apply Kd.V_drewN | apply Kd.V_drew)); exact HO_0.out) (Kd.R_base ho0) hb); have n1_ := Aside0.mk (Kd.V_elder' (by (with_reducible repeat (first | apply Kd.V_alloc | apply Kd.V_drewN | apply Kd.V_drew)); exact HO_9.out) (Kd.R_base ho0) hb); have n2_ := Aside0.mk (Kd.R_below (by (with_reducible repeat (first | apply Kd.R_alloc | apply Kd.R_drewN | apply Kd.R_drew)); exact HO_10.out) hb); have n3_ := Aside0.mk (Kd.R_below (by (with_reducible repeat (first | apply Kd.R_alloc | apply Kd.R_drewN | apply Kd.R_drew)); exact HO_14.out) hb); have n4_ := Aside0.mk (Kd.R_lower (Kd.R_newM (M := fun k_ => (w.heap.size ≤ k_)) ho0 (below_size (by repeat (first | (with_reducible first | exact HB.out | apply below_alloc | apply pw_below_drewN | apply below_drew1) | exact HB.out))) (fun k_ h_ => h_)) (below_size (by repeat (first | (with_reducible first | exact HB.out | apply below_alloc | apply pw_below_drewN | apply below_drew1) | exact HB.out)))); have n5_ := Aside0.mk (below_step (by repeat (first | (with_reducible first | exact HB.out | apply below_alloc | apply pw_below_drewN | apply below_drew1) | exact HB.out)) hb); clear HO_0; clear HO_9; clear HO_10; clear HO_14; clear HB; have HO_0 := n0_; have HO_9 := n1_; have HO_10 := n2_; have HO_14 := n3_; have HO469 := n4_; have HB := n5_; clear n0_ n1_ n2_ n3_ n4_ n5_; (try clear hb); (try clear hb2); (try clear hk); (try clear hi); (try clear ho0); obtain ⟨Ao51, co51, eo51⟩ := Kd.R_slice HO469.out; subst eo51) | ((with_reducible refine gate_callee (f := 143) rfl ?_); refine goesL_ (some 107) rfl rfl Try.func143 (by kernel_rfl) rfl #[.slice Ao51 t467.length co51, .slice A0 l0.length c0] rfl (by (try simp only [List.map_toArray, List.map_cons, List.map_nil]); first | done | rfl | (simp only [List.length_drop, List.length_take]; rfl)) ?_; (with_reducible refine (bytes_Equal.calls _ _ t467 _ _ l0 false _ ?side1 ?side2 ?side3 ?side4 A44.out).mono ?_); (case side1 => repeat (first | exact (Kd.R_reads' HO469.out).2.2 | (with_reducible refine Kd.C_alloc ?_ _) | (with_reducible refine Kd.C_drewN ?_ _) | (with_reducible refine Kd.C_drew ?_))); (case side2 => exact (Kd.R_reads' HO469.out).2.1); (case side3 => repeat (first | exact (Kd.V_reads' HO_0.out).2.2 | (with_reducible refine Kd.C_alloc ?_ _) | (with_reducible refine Kd.C_drewN ?_ _) | (with_reducible refine Kd.C_drew ?_))); (case side4 => exact (Kd.V_reads' HO_0.out).2.1); rintro e w' ⟨rfl, ⟨nd, rfl⟩⟩; refine ⟨_, rfl, ?_⟩))
                        go_ret2
                        exact ⟨_, by first | rfl | (simp [errW_none, errW_some] <;> rfl) | (simp [*, errW_none, errW_some] <;> rfl), by first | exact Kd.R_nil _ _ _ _ _ | exact Kd.N_nil _ _ _ _ _ | exact Kd.V_nil _ _ _ _ _ | exact Kd.Q_nil _ _ _ _ _ | exact Kd.S_nil _ _ _ _ _, by repeat (first | (with_reducible first | exact HB.out | apply below_alloc | apply pw_below_drewN | apply below_drew1) | exact HB.out)⟩
        · rw [if_neg c7] at H
          exact absurd H (by simp)
      · rw [if_neg c6] at H
        exact absurd H (by simp)
  · rw [if_neg c4] at H
    have c4b0 : (t433 == 0) = false := beq_eq_false_iff_ne.mpr c4
    have c4b1 : (t433 != 0) = true := bne_iff_ne.mpr c4
    simp only [Option.some.injEq, Prod.mk.injEq] at H
    obtain ⟨rfl, rfl⟩ := H
    go_enter Try.func138, Try.ntmps138
    go_wp2_with (first | ((with_reducible refine gate_callee (f := 126) rfl ?_); refine goesL_ (some 20) rfl rfl Try.func126 (by kernel_rfl) rfl #[.slice A0 l0.length c0] rfl (by (try simp only [List.map_toArray, List.map_cons, List.map_nil]); first | done | rfl | (simp only [List.length_drop, List.length_take]; rfl)) ?_; (with_reducible refine (varint_Get.calls k _ _ l0 t431 t432 t433 _ ?side1 ?side2 A3.out).mono ?_); (case side1 => repeat (first | exact (Kd.V_reads' HO0.out).2.2 | (with_reducible refine Kd.C_alloc ?_ _) | (with_reducible refine Kd.C_drewN ?_ _) | (with_reducible refine Kd.C_drew ?_))); (case side2 => exact (Kd.V_reads' HO0.out).2.1); rintro e w' ⟨rfl, ⟨nd, rfl⟩⟩; refine ⟨_, rfl, ?_⟩))
    go_ret2
    exact ⟨_, by first | rfl | (simp [errW_none, errW_some] <;> rfl) | (simp [*, errW_none, errW_some] <;> rfl), by first | exact Kd.R_nil _ _ _ _ _ | exact Kd.N_nil _ _ _ _ _ | exact Kd.V_nil _ _ _ _ _ | exact Kd.Q_nil _ _ _ _ _ | exact Kd.S_nil _ _ _ _ _, by repeat (first | (with_reducible first | exact HB.out | apply below_alloc | apply pw_below_drewN | apply below_drew1) | exact HB.out)⟩

end Go.Proofs.Ytlmcefhpnfoahaa.P
end

section
namespace Go.Proofs.Ytlmcefhpnfoahaa.P
open Go.RowKit Go.Proofs.YtlmcefhpnfoahaaW.PrintWords Go.Proofs.YtlmcefhpnfoahaaW.PrintLast Go.Proofs.YtlmcefhpnfoahaaW.PrintMore
set_option linter.unusedVariables false
set_option linter.unusedSimpArgs false

theorem strOf_inj (a b : List Int) (ha : ∀ x ∈ a, isByte x = true) (hb : ∀ x ∈ b, isByte x = true) (h : (strOfNums a).toList = (strOfNums b).toList) : a = b := by
  have e2 : strOfNums a = strOfNums b := by
    rw [ByteArray.toList_eq, ByteArray.toList_eq] at h
    exact WideShapes.bytes_inj h
  have e3 := congrArg bytesOf e2
  rwa [bytesOf_strOfNums _ ha, bytesOf_strOfNums _ hb] at e3
theorem strOf_eq (a b : List Int) (ha : ∀ x ∈ a, isByte x = true) (hb : ∀ x ∈ b, isByte x = true) : ((strOfNums a).toList == (strOfNums b).toList) = decide (a = b) := by
  by_cases h : a = b
  · subst h; simp
  · rw [decide_eq_false h, beq_eq_false_iff_ne]
    exact fun e => h (strOf_inj a b ha hb e)
theorem vput9_isByte (v : Int) (h0 : 0 ≤ v) (h1 : v ≤ 18446744073709551615) : ∀ x ∈ vput 9 v, isByte x = true := vput_bytes 9 v h0 (by
  have h : (2 : Int) * 128 ^ 9 = 18446744073709551616 := by decide
  rw [h]
  omega)
theorem encTexts_isByte (m : List ByteArray) (hm : m.length ≤ 1000000) (hs : ∀ s ∈ m, s.size ≤ 1000000) : ∀ x ∈ encTexts m, isByte x = true := by
  have hl := wordsOf_len m []
  simp only [List.length_nil, Nat.zero_add] at hl
  intro x hx
  unfold encTexts at hx
  rcases List.mem_append.mp hx with hx | hx
  · rcases List.mem_append.mp hx with hx | hx
    · exact vput9_isByte _ (by omega) (by omega) x hx
    · obtain ⟨s, hs1, hx⟩ := List.mem_flatMap.mp hx
      unfold encT at hx
      rcases List.mem_append.mp hx with hx | hx
      · have : s.size ≤ 1000000 := by
          rcases wordsOf_from m [] s hs1 with h | h
          · cases h
          · exact hs s h
        exact vput9_isByte _ (by omega) (by omega) x hx
      · exact bytesOf_isByte s x hx
  · obtain ⟨s, hs1, hx⟩ := List.mem_flatMap.mp hx
    unfold which at hx
    have := List.idxOf_le_length (a := s) (l := wordsOf [] m)
    exact vput9_isByte _ (by omega) (by omega) x hx
/-- Marks out of words. -/
def mkT (s : ByteArray) : S39 := ⟨3, 0, s⟩
def finT (b : List Int) (m : List ByteArray) : List S39 × Int := if encTexts m = b then (m.map mkT, 0) else ([], 21)
theorem map_mkT (m : List ByteArray) : (m.map mkT).map S39.f2 = m := by
  rw [List.map_map]
  have e : S39.f2 ∘ mkT = id := rfl
  rw [e, List.map_id]
theorem getTx_l1 (b : List Int) (hb : ∀ x ∈ b, isByte x = true) (W : List ByteArray) (hWl : W.length ≤ 70000) (hWs : ∀ s ∈ W, s.size ≤ 400000) (n : Nat) (hn : n ≤ 70000) : ∀ (d k i : Nat) (r : List Int) (m : List ByteArray), i + d = n → d + 25 ≤ k → m.length = i → (∀ s ∈ m, s.size ≤ 400000) → r.length ≤ 1000000 → (∀ x ∈ r, isByte x = true) →
    column_getTexts.l1 k b (W.length : Int) r W (m.map mkT) (n : Int) (i : Int) = some (if (getWhich W d r).2.2 ≠ 0 then ([], (getWhich W d r).2.2) else finT b (m ++ (getWhich W d r).1)) := by
  intro d
  induction d with
  | zero =>
    intro k i r m hi hk hm hms hrl hrb
    obtain ⟨k, rfl⟩ : ∃ j, k = j + 1 := ⟨k - 1, by omega⟩
    rw [column_getTexts.l1, if_neg (by omega)]
    have hf : column_putTexts.f (m.map mkT) = some (encTexts m) := by
      unfold column_putTexts.f
      rw [if_pos ⟨by rw [List.length_map]; omega, by rw [List.all_eq_true]; intro x hx; obtain ⟨s, hs, rfl⟩ := List.mem_map.mp hx; exact decide_eq_true (hms s hs)⟩, map_mkT]
    rw [hf, Option.bind_some]
    unfold bytes_Equal.f
    rw [Option.bind_some, strOf_eq _ _ (encTexts_isByte m (by omega) (fun s hs => by have := hms s hs; omega)) hb]
    have e : getWhich W 0 r = ([], r, 0) := rfl
    rw [e]
    dsimp only
    rw [List.append_nil]
    unfold finT
    by_cases h : encTexts m = b
    · rw [if_pos (decide_eq_true h), if_pos h]; simp
    · rw [if_neg (show ¬ (decide (encTexts m = b) = true) from by simpa using h), if_neg h]; simp
  | succ d ih =>
    intro k i r m hi hk hm hms hrl hrb
    obtain ⟨k, rfl⟩ : ∃ j, k = j + 1 := ⟨k - 1, by omega⟩
    have hr := vget_range r hrb
    rw [column_getTexts.l1, if_pos (by omega), get_k k (by omega) r hrl hrb, Option.bind_some]
    unfold getWhich
    obtain ⟨u, hu⟩ : ∃ u, u = vget r := ⟨_, rfl⟩
    rw [← hu] at hr ⊢
    by_cases h1 : u.2.2 = 0
    · rw [if_pos h1, if_neg (show ¬ (u.2.2 ≠ 0) from by simpa using h1)]
      by_cases h2 : u.1 ≥ (W.length : Int)
      · rw [if_pos h2, if_pos h2]; rfl
      · have hlt : u.1.toNat < W.length := by omega
        have hmem : W.getD u.1.toNat ⟨#[]⟩ ∈ W := by rw [List.getD_eq_getElem?_getD, List.getElem?_eq_getElem hlt]; exact List.getElem_mem hlt
        have hx : (m.map mkT) ++ [(⟨3, 0, rdOf ByteArray.empty W u.1⟩ : S39)] = (m ++ [W.getD u.1.toNat ⟨#[]⟩]).map mkT := by
          rw [List.map_append]; rfl
        rw [if_neg h2, if_neg h2, if_pos hr.1, if_pos (by omega), if_pos (by rw [List.length_map]; omega), if_pos hr.2.2.1, if_pos hr.2.2.2, w64s i (by omega), hx,
          ih k (i + 1) (r.drop u.2.1.toNat) (m ++ [W.getD u.1.toNat ⟨#[]⟩]) (by omega) (by omega) (by simp [hm]) (fun s hs => by
            rcases List.mem_append.mp hs with h | h
            · exact hms s h
            · simp at h; rw [h]; exact hWs _ (by simpa using hmem)) (by rw [List.length_drop]; omega) (fun x hx => hrb x (List.mem_of_mem_drop hx))]
        by_cases h3 : (getWhich W d (r.drop u.2.1.toNat)).2.2 = 0
        · rw [if_neg (by simpa using h3), if_pos h3, if_neg (by simpa using h3), List.append_assoc]; rfl
        · rw [if_pos (by simpa using h3), if_neg h3, if_pos (by simpa using h3)]
    · rw [if_neg h1, if_pos (show u.2.2 ≠ 0 from h1), if_pos (show u.2.2 ≠ 0 from h1)]
theorem getTx_l0 (b : List Int) (hb : ∀ x ∈ b, isByte x = true) (n many : Nat) (hn : n ≤ 70000) (hmn : many ≤ 70000) : ∀ (d k j : Nat) (r : List Int) (W : List ByteArray), j + d = many → d + n + 30 ≤ k → W.length = j → (∀ s ∈ W, s.size ≤ 400000) → r.length ≤ 400000 → (∀ x ∈ r, isByte x = true) →
    column_getTexts.l0 k b (n : Int) (many : Int) r W (many : Int) (j : Int) = some (if (getWords d r).2.2 ≠ 0 then ([], (getWords d r).2.2) else if (getWhich (W ++ (getWords d r).1) n (getWords d r).2.1).2.2 ≠ 0 then ([], (getWhich (W ++ (getWords d r).1) n (getWords d r).2.1).2.2) else finT b (getWhich (W ++ (getWords d r).1) n (getWords d r).2.1).1) := by
  intro d
  induction d with
  | zero =>
    intro k j r W hj hk hW hWs hrl hrb
    obtain ⟨k, rfl⟩ : ∃ i, k = i + 1 := ⟨k - 1, by omega⟩
    have h := getTx_l1 b hb W (by omega) hWs n hn n k 0 r [] (by omega) (by omega) rfl (fun s hs => by cases hs) (by omega) hrb
    obtain rfl : many = W.length := by omega
    rw [column_getTexts.l0, if_neg (by omega)]
    unfold getWords
    rw [if_neg (by simp)]
    simp only [List.append_nil, List.nil_append, List.map_nil] at h ⊢
    exact h
  | succ d ih =>
    intro k j r W hj hk hW hWs hrl hrb
    obtain ⟨k, rfl⟩ : ∃ i, k = i + 1 := ⟨k - 1, by omega⟩
    have hr := vget_range r hrb
    rw [column_getTexts.l0, if_pos (by omega), get_k k (by omega) r (by omega) hrb, Option.bind_some]
    unfold getWords
    obtain ⟨u, hu⟩ : ∃ u, u = vget r := ⟨_, rfl⟩
    rw [← hu] at hr ⊢
    by_cases h1 : u.2.2 = 0
    · rw [if_pos h1, if_neg (show ¬ (u.2.2 ≠ 0) from by simpa using h1)]
      have hw : IntKind.u64.wrap (wrap64 ((r.length : Int) - u.2.1)) = (r.length : Int) - u.2.1 := by
        show wrap64 ((r.length : Int) - u.2.1) % 18446744073709551616 = _
        rw [w64 (by omega) (by omega)]
        omega
      rw [hw]
      by_cases h2 : u.1 > (r.length : Int) - u.2.1
      · rw [if_pos h2, if_pos h2]; rfl
      · have hw1 : wrap64 u.1 = u.1 := w64 (by omega) (by omega)
        have hw2 : wrap64 (u.2.1 + u.1) = u.2.1 + u.1 := w64 (by omega) (by omega)
        have hsz : (strOfNums ((r.take (u.2.1 + u.1).toNat).drop u.2.1.toNat)).size ≤ 400000 := by
          have : (strOfNums ((r.take (u.2.1 + u.1).toNat).drop u.2.1.toNat)).size = ((r.take (u.2.1 + u.1).toNat).drop u.2.1.toNat).length := by
            simp [strOfNums, ByteArray.size]
          rw [this, List.length_drop, List.length_take]
          omega
        have hu64 : IntKind.u64.wrap ((j : Int) + 1) = ((j + 1 : Nat) : Int) := by
          show ((j : Int) + 1) % 18446744073709551616 = _
          omega
        rw [if_neg h2, if_neg h2, hw1, hw2, if_pos hr.2.2.1, if_pos (by omega), if_pos (by omega), if_pos (by omega), if_pos (by omega), hu64,
          ih k (j + 1) (r.drop (u.2.1 + u.1).toNat) (W ++ [strOfNums ((r.take (u.2.1 + u.1).toNat).drop u.2.1.toNat)]) (by omega) (by omega) (by simp [hW]) (fun s hs => by
            rcases List.mem_append.mp hs with h | h
            · exact hWs s h
            · simp at h; rw [h]; exact hsz) (by rw [List.length_drop]; omega) (fun x hx => hrb x (List.mem_of_mem_drop hx))]
        by_cases h3 : (getWords d (r.drop (u.2.1 + u.1).toNat)).2.2 = 0
        · rw [if_neg (by simpa using h3), if_pos h3]
          dsimp only
          rw [if_neg (show ¬ ((getWords d (r.drop (u.2.1 + u.1).toNat)).2.2 ≠ 0) from by simpa using h3), List.append_assoc]
          rfl
        · rw [if_pos (by simpa using h3), if_neg h3]
          dsimp only
          rw [if_pos (show (getWords d (r.drop (u.2.1 + u.1).toNat)).2.2 ≠ 0 from h3)]
    · rw [if_neg h1, if_pos (show u.2.2 ≠ 0 from h1)]
      dsimp only
      rw [if_pos (show u.2.2 ≠ 0 from h1)]
theorem getTx_f (b : List Int) (n : Nat) (hn : n ≤ 65536) (hl : b.length ≤ 400000) (hb : ∀ x ∈ b, isByte x = true) (k : Nat) (hk : 2 * n + 31 ≤ k) : column_getTexts.f k b (n : Int) = some ((getTexts b n).1.map mkT, (getTexts b n).2) := by
  have hr := vget_range b hb
  unfold column_getTexts.f getTexts
  rw [get_k k (by omega) b (by omega) hb, Option.bind_some]
  obtain ⟨u, hu⟩ : ∃ u, u = vget b := ⟨_, rfl⟩
  rw [← hu] at hr ⊢
  by_cases h1 : u.2.2 = 0
  · rw [if_pos h1, if_neg (show ¬ (u.2.2 ≠ 0) from by simpa using h1)]
    have hw : IntKind.u64.wrap (n : Int) = (n : Int) := by show (n : Int) % 18446744073709551616 = _; omega
    rw [hw]
    by_cases h2 : u.1 > (n : Int)
    · rw [if_pos h2, if_pos h2]; rfl
    · rw [if_neg h2, if_neg h2, if_pos hr.2.2.1, if_pos hr.2.2.2]
      obtain ⟨many, hm⟩ : ∃ m, m = u.1.toNat := ⟨_, rfl⟩
      have hum : u.1 = (many : Int) := by omega
      rw [hum, Int.toNat_natCast]
      have h := getTx_l0 b hb n many (by omega) (by omega) many k 0 (b.drop u.2.1.toNat) [] (by omega) (by omega) rfl (fun s hs => by cases hs) (by rw [List.length_drop]; omega) (fun x hx => hb x (List.mem_of_mem_drop hx))
      rw [show ((0 : Nat) : Int) = 0 from rfl] at h
      rw [h]
      simp only [List.nil_append]
      generalize getWords many (b.drop u.2.1.toNat) = G
      by_cases h3 : G.2.2 ≠ 0
      · rw [if_pos h3, if_pos h3]; rfl
      · rw [if_neg h3, if_neg h3]
        generalize getWhich G.1 n G.2.1 = H
        by_cases h4 : H.2.2 ≠ 0
        · rw [if_pos h4, if_pos h4]; rfl
        · rw [if_neg h4, if_neg h4]
          unfold finT
          by_cases h5 : encTexts H.1 = b
          · rw [if_pos h5, if_pos h5]
          · rw [if_neg h5, if_neg h5]; rfl
  · rw [if_neg h1, if_pos (show u.2.2 ≠ 0 from h1)]; rfl
end Go.Proofs.Ytlmcefhpnfoahaa.P
end

section
namespace Go.Proofs.Ytlmcefhpnfoahaa.P
open Go.RowKit Go.Proofs.YtlmcefhpnfoahaaW.PrintWords Go.Proofs.YtlmcefhpnfoahaaW.PrintLast Go.Proofs.YtlmcefhpnfoahaaW.PrintMore
set_option linter.unusedVariables false
set_option linter.unusedSimpArgs false

theorem getMarks_1 (A : Option Addr) (c : Nat) (l : List Int) (n : Nat) (w : World) (hn : n ≤ 65536) (hll : l.length ≤ 400000) (hr : Kd.C (Kd.int .u8) w A l.length l) (hc : l.length ≤ c) (hb : ∀ x ∈ l, isByte x = true) :
    Calls Try.prog 134 #[.slice A l.length c, .int .i64 n] w (GetVPost w (getMarks 1 l n)) := getTruths_any A c l n w (by omega) (by omega) hr hc hb
theorem getMarks_2 (A : Option Addr) (c : Nat) (l : List Int) (n : Nat) (w : World) (hn : n ≤ 65536) (hll : l.length ≤ 400000) (hr : Kd.C (Kd.int .u8) w A l.length l) (hc : l.length ≤ c) (hb : ∀ x ∈ l, isByte x = true) :
    Calls Try.prog 136 #[.slice A l.length c, .int .i64 n] w (GetVPost w (getMarks 2 l n)) := column_getNumbers.calls (4 * n + 31) A c l n _ _ w hr hc (getNum_f l n hn (by omega) hb _ (Nat.le_refl _))
theorem getMarks_3 (A : Option Addr) (c : Nat) (l : List Int) (n : Nat) (w : World) (hn : n ≤ 65536) (hll : l.length ≤ 400000) (hr : Kd.C (Kd.int .u8) w A l.length l) (hc : l.length ≤ c) (hb : ∀ x ∈ l, isByte x = true) :
    Calls Try.prog 138 #[.slice A l.length c, .int .i64 n] w (GetVPost w (getMarks 3 l n)) :=
  (column_getTexts.calls (2 * n + 31) (fun k => k < w.heap.size) A c l n _ _ w (Kd.V_mk hc (Kd.C_F (Kd.heap_int .u8) hr)) (getTx_f l n hn hll hb _ (Nat.le_refl _))).mono fun e w' ⟨v, h1, h2, h3⟩ => ⟨v, h1, Kd.R_mono h2 (fun _ _ => trivial), h3⟩
def getColI (kind : Int) (l : List Int) (n : Int) : List S39 × Int := if kindB kind = true ∧ 0 ≤ n ∧ n ≤ 65536 then getCol kind l n.toNat else ([], 1)
/-- 's[1:]' of a row of values that is read. -/
theorem cut_one39 (ad : Addr) (n c : Nat) (hn : 0 < n) (hc : n ≤ c) : ∃ A', (∀ W : World, (Instr.slice 23 (.slice (some ad) n c) (some (.int .i64 1)) none none).run Try.prog W = .ok (.slice A' (n - 1) (c - 1)) W) ∧ (∀ (W : World) (x : S39) (l : List S39), Kd.C k39 W (some ad) n (x :: l) → Kd.C k39 W A' (n - 1) l) := by
  obtain ⟨i0, h0, hzz⟩ := Option.map_eq_some_iff.1 info39
  simp only [Prod.mk.injEq] at hzz
  refine ⟨if c = 1 then some ad else (some ad).map (·.add (1 * 3)), fun W => ?_, fun W x l hC => ?_⟩
  · exact Go.Proofs.YtlmcefhpnfoahaaW.PrintWords.cut_from (P := Try.prog) 23 39 .i64 Try.underlying23 h0 3 hzz.2.1 (some ad) n c 1 (by omega) (by omega) W
  · have hl : (x :: l).length = n := hC.1
    subst hl
    have := Kd.C_drop (m := 1) (c := c) hC (by simp) hc
    exact this
theorem Own.val_in {W : World} {A : Option Addr} {n : Nat} {x : S39} {l : List S39} (h : Kd.C k39 W A n (x :: l)) : ∃ ad, A = some ad ∧ W.cell? ad = some (.int .u8 x.f0) ∧ W.cell? ⟨ad.block, ad.off + 1, none⟩ = some (.int .i64 x.f1) ∧ W.cell? ⟨ad.block, ad.off + 2, none⟩ = some (.string x.f2) := by
  have hl : (x :: l).length = n := h.1
  obtain ⟨ad, e, h0, h1, h2⟩ := at_T39 h 0 (by omega) (by rw [← hl]; simp only [List.length_cons]; omega)
  have e0 : rd_T39 (x :: l) 0 = x := rfl
  rw [e0, show (0 : Int).toNat * 3 = 0 from rfl, Addr.add_zero'] at h0 h1 h2
  exact ⟨ad, e, h0, h1, h2⟩
def GC58.T22 : Bool × List (List Nat × List Nat) := (true, [([], []), ([], []), ([], []), ([2], [2]), ([3], [3]), ([], []), ([5], [5]), ([0, 1, 0, 1, 2, 3, 4], [0, 1]), ([7, 4, 0, 1, 2, 3, 4], [4, 7]), ([6, 8, 0, 1, 2, 3, 4, 5, 6, 7, 8], [2, 5, 6])])
def GC58.B22 : List Nat := [0, 0, 0, 4, 12, 0, 32, 31, 159, 511]
theorem GC58.tab22 : rtab .any (opsOf Try.f58 22) = GC58.T22 := by kernel_rfl
theorem GC58.bits22 : waitsOk GC58.T22.2 GC58.B22 = true := by kernel_rfl
set_option maxRecDepth 100000 in
set_option maxHeartbeats 3200000 in
theorem column_Get_1 (A : Option Addr) (c : Nat) (l : List Int) (m : Nat) (hm : m ≤ 65536) (hll : l.length ≤ 400000) (w : World) (hr : Kd.C (Kd.int .u8) w A l.length l) (hc : l.length ≤ c) (hb : ∀ x ∈ l, isByte x = true) :
    Calls Try.prog 58 #[.int .u8 1, .slice A l.length c, .int .i64 m] w (GetVPost w (getCol 1 l m)) := by
  have hmm := cway_look 1 (w.alloc (.map cwaysMap 3)) (b := w.heap.size) (heap_alloc_new w _)
  have hw1 : wayP 1 = .func (.func 133) #[] #[] := rfl
  have hw2 : wayG 1 = .func (.func 134) #[] #[] := rfl
  have hw3 : kindB 1 = true := rfl
  rw [hw1, hw2, hw3] at hmm
  clear hw1 hw2 hw3
  obtain ⟨W1, hW1⟩ : ∃ W, W = (w.alloc (.map cwaysMap 3)).alloc (.cells #[.func (.func 133) #[] #[], .func (.func 134) #[] #[]] 113) := ⟨_, rfl⟩
  have HBW := Aside0.mk (show Below w.heap.size w W1 by rw [hW1]; exact ((Below.refl _ _).alloc (Nat.le_refl _) _).alloc (by simp) _)
  have HG : Aside0 (W1.heap[w.heap.size + 1]? = some (.cells #[.func (.func 133) #[] #[], .func (.func 134) #[] #[]] 113 (0, 0))) := ⟨by rw [hW1]; have := heap_alloc_new (w.alloc (.map cwaysMap 3)) (.cells #[.func (.func 133) #[] #[], .func (.func 134) #[] #[]] 113); rwa [World.size_alloc] at this⟩
  have hr1 := Kd.C_below hr HBW.out
  have HR1 := Aside0.mk hr1
  obtain ⟨r, hR⟩ : ∃ r, r = getCol 1 l m := ⟨_, rfl⟩
  rw [← hR]
  unfold getCol at hR
  have hm0 : (0 : Int) ≤ (m : Int) := by omega
  have hm1 : (m : Int) ≤ 65536 := by omega
  have fin : ∀ (w' : World) (e : Int), Below W1.heap.size W1 w' → r = ([], e) → GetVPost w r (.returned (.tuple #[.slice none 0 0, .int .i64 e])) w' := fun w' e hb he => by subst he; exact getV_nil _ _ _ (below_then HBW.out HBW.out.size hb)
  have FIN := Aside0.mk fin
  clear fin
  by_cases h1 : l.length < (m + 7) / 8
  · rw [if_pos h1] at hR
    have M := Aside0.mk (take_short A c l m W1 (by omega) h1)
    have HRE := Aside0.mk hR
    rw [hW1] at M
    clear h1 hr hb hr1 hR
    go_enter Try.func58, Try.ntmps58
    go_wp2_with (first
      | (go_at_call 89; refine (cways_any _).mono ?_; rintro e w' ⟨rfl, rfl⟩)
      | (go_at_call 101; refine M.out.mono ?_; rintro e w1 ⟨rfl, rfl⟩))
    go_ret2
    exact FIN.out _ _ (by rw [hW1]; exact Below.refl _ _) HRE.out
  rw [if_neg h1] at hR
  have M0 := take_any A c l m W1 (by omega) (by omega) hr1 hc hb (by omega)
  by_cases h2 : loose l m = true
  · rw [if_pos h2] at hR
    rw [h2] at M0
    have M : Aside0 (Calls Try.prog 101 #[.slice A l.length c, .int .i64 m] W1 fun e w' => e = .returned (.tuple #[.slice none 0 0, .slice none 0 0, .int .i64 21]) ∧ Aside0 (Below W1.heap.size W1 w')) := ⟨M0.mono fun e w' h => by
      rcases h with ⟨_, h1, h2⟩ | ⟨h, _⟩
      · exact ⟨h1, ⟨h2⟩⟩
      · cases h⟩
    have HRE := Aside0.mk hR
    rw [hW1] at M FIN
    clear h1 h2 M0 hr hb hr1 hR HR1 HG HBW hW1
    go_enter Try.func58, Try.ntmps58
    go_wp2_with (first
      | (go_at_call 89; refine (cways_any _).mono ?_; rintro e w' ⟨rfl, rfl⟩)
      | (go_at_call 101; refine M.out.mono ?_; rintro e w1 ⟨rfl, HB⟩))
    go_ret2
    exact FIN.out _ _ HB.out HRE.out
  rw [if_neg h2] at hR
  rw [Bool.not_eq_true] at h2
  rw [h2] at M0
  obtain ⟨R, hRR⟩ : ∃ R, R = l.drop ((m + 7) / 8) := ⟨_, rfl⟩
  rw [← hRR] at hR
  have hRl : R.length = l.length - (m + 7) / 8 := by rw [hRR, List.length_drop]
  have HRB : Aside0 (∀ x ∈ R, isByte x = true) := ⟨fun x hx => hb x (by rw [hRR] at hx; exact List.mem_of_mem_drop hx)⟩
  have hR4 : R.length ≤ 400000 := by omega
  have M : Aside0 (Calls Try.prog 101 #[.slice A l.length c, .int .i64 m] W1 fun e w' => ∃ A1 c1 A' c', e = .returned (.tuple #[.slice A1 m c1, .slice A' R.length c', .int .i64 0]) ∧ m ≤ c1 ∧ R.length ≤ c' ∧ Aside0 (Kd.C Kd.bool w' A1 m ((List.range m).map (bitAt l))) ∧ Aside0 (Kd.C (Kd.int .u8) w' A' R.length R) ∧ Aside0 (Below W1.heap.size W1 w')) := ⟨M0.mono fun e w' h => by
    rcases h with ⟨h, _⟩ | ⟨_, v, A', c', h1, h2, h3, h4⟩
    · cases h
    · obtain ⟨A1, n1, c1, e1, hn1, hc1, hC1⟩ := h3.sl'
      subst e1
      have hn2 : n1 = m := hn1.out.trans (by simp)
      subst hn2
      have h5 := h4 w' (Kd.C_below hr1 h3.b)
      rw [← hRR, ← hRl] at h5
      exact ⟨A1, c1, A', c', by rw [hRl]; exact h1, hc1, by rw [hRl]; exact h2, hC1, ⟨h5⟩, ⟨h3.b⟩⟩⟩
  have HRE := Aside0.mk hR
  obtain ⟨cn, hcn⟩ : ∃ cn, cn = cntF (bitAt l) m := ⟨_, rfl⟩
  have HCN := Aside0.mk hcn
  have hcm : cn ≤ m := by rw [hcn]; exact cnt_le _ _
  rw [← hcn] at HRE
  rw [hW1] at M FIN HG HBW
  clear h1 h2 M0 hr hb hr1 hR HR1 hW1 hRR hRl hcn
  go_enter Try.func58, Try.ntmps58
  go_wp2_with (first
    | (go_at_call 89; refine (cways_any _).mono ?_; rintro e w' ⟨rfl, rfl⟩)
    | (go_at_call 101; refine M.out.mono ?_; rintro e w2 ⟨A1, c1, A9, c9, rfl, hc1, hc9, HC1, HC9, HB2⟩))
  clear hmm M
  go_loop [13, 15, 48] (fun v13 v15 v48 => ∃ k : Nat, k ≤ m ∧ v48 = .int .i64 k ∧ v13 = .int .i64 (cntF (bitAt l) k)) (fun _ _ v48 => m - (intOf v48).toNat)
  case atStart => exact ⟨0, Nat.zero_le _, rfl, rfl⟩
  case round =>
    obtain ⟨k, hk, rfl, rfl⟩ := hrel
    by_cases hlt : k < m
    · have hkn : (k : Int) < (m : Int) := by omega
      obtain ⟨ad, e, hx⟩ := Kd.at_bool HC1.out (k : Int) (by omega) hkn
      cases e
      rw [Int.toNat_natCast, bits_rd l m k hlt] at hx
      have HS := Aside0.mk (cnt_succ (bitAt l) k)
      have hck := cnt_le (bitAt l) k
      obtain ⟨q, hq⟩ : ∃ q, q = bitAt l k := ⟨_, rfl⟩
      rw [← hq] at hx HS
      clear hq
      cases q with
      | true =>
        go_wp2
        go_round
        case rel => exact ⟨k + 1, by omega, by go_num, by rw [HS.out]; rfl⟩
        case measure => simp [intOf]; omega
      | false =>
        go_wp2
        go_round
        case rel => exact ⟨k + 1, by omega, by go_num, by rw [HS.out]; go_num⟩
        case measure => simp [intOf]; omega
    · obtain rfl : m = k := by omega
      rw [← HCN.out]
      have MG := Aside0.mk (getMarks_1 A9 c9 R cn w2 (by omega) hR4 HC9.out hc9 HRB.out)
      have ML := Aside0.mk (marks_len_eq 1 R cn HRB.out)
      obtain ⟨G, hG⟩ : ∃ G, G = getMarks 1 R cn := ⟨_, rfl⟩
      rw [← hG] at MG ML HRE
      clear hG
      have hg2 := (HB2.out.block _ (blk_lt HG.out)).trans HG.out
      have q2 : w2.cell? ⟨w.heap.size + 1, 1, none⟩ = some (.func (.func 134) #[] #[]) := cell_of_row _ _ _ _ _ _ hg2
      clear hg2 hlt hk
      obtain ⟨G1, G2⟩ := G
      dsimp only at ML HRE
      by_cases he : G2 = 0
      · subst he
        have HRE2 := Aside0.mk (show r = (merge (bitAt l) 0 m G1, 0) by rw [HRE.out, if_neg (by simp)])
        have hGl := ML.out rfl
        have HB3 := Aside0.mk (Below.refl w2.heap.size w2)
        go_wp2_with (first
          | (go_at_call 134; refine MG.out.mono ?_; rintro e w3 ⟨v3, rfl, hr3, hb3⟩; have HB3 := Aside0.mk (below_then HB2.out HB2.out.size hb3); have HBB := Aside0.mk (Below.refl w3.heap.size w3); have HC1b := Aside0.mk (Kd.C_below HC1.out hb3); obtain ⟨A4, c4, e4, hc4, hC4⟩ := Kd.R_reads hr3; subst e4; have HC4 := Aside0.mk hC4; clear hr3 hb3 hC4)
          | ((with_reducible refine gate_dst (N := 69) rfl ?_); refine Kd.R_make k39 w3.heap.size 39 rfl (N := 69) rfl 23 _ _ rfl (m : Int) rfl rfl Try.underlying23 (.agg #[(.int .u8 0), (.int .i64 0), (.string ⟨#[]⟩)]) 32 info39 rfl (by decide) (by omega) z39 (ok := fun _ => True) (okp := fun _ => True) (k39_mkM _ _ _ z39) (fun _ hk => hk) trivial (by omega) (by omega) HBB.out HBB.out.size ?_; intro v4 w4 ho hb hg hnew; have HO := Aside0.mk (Own.mk ho hb (Nat.le_trans HBB.out.size hg.size)); clear ho hb hg hnew; obtain ⟨A5, n5, c5, e5, hn5, hnc5, _⟩ := HO.out.sl'; have hn3 : m = n5 := (hn5.out.trans (by simp)).symm; subst e5; subst hn3; clear hn5))
        go_loopw [16, 18, 19, 72] (fun v16 v18 v19 v72 W => ∃ (k : Nat) (A6 : Option Addr) (c6 : Nat) (M : List S39), k ≤ m ∧ v72 = .int .i64 k ∧ v16 = .slice A6 M.length c6 ∧ M.length ≤ c6 ∧ Aside0 (M = G1.drop (cntF (bitAt l) k)) ∧ Aside0 (Kd.C k39 w3 A6 M.length M) ∧ Aside0 (Own k39 39 w3.heap.size w3 W (.slice A5 m c5) (outK (bitAt l) m G1 k))) (fun _ _ _ v72 _ => m - (intOf v72).toNat)
        case atStart => exact ⟨0, A4, c4, G1, Nat.zero_le _, rfl, by rw [hGl], hc4, ⟨by rw [cnt_zero]; rfl⟩, HC4, ⟨HO.out.of_cast (by rw [outK_zero, Int.toNat_natCast])⟩⟩
        case round =>
          clear HO HBB MG HC4
          obtain ⟨k, A6, c6, M, hk, rfl, rfl, hc6, HM, HC6, HO⟩ := hrel
          by_cases hlt : k < m
          · have hkn : (k : Int) < (m : Int) := by omega
            obtain ⟨ad, e, hx⟩ := Kd.at_bool (Kd.C_below HC1b.out HO.out.b) (k : Int) (by omega) hkn
            cases e
            rw [Int.toNat_natCast, bits_rd l m k hlt] at hx
            have HS := Aside0.mk (cnt_succ (bitAt l) k)
            obtain ⟨q, hq⟩ : ∃ q, q = bitAt l k := ⟨_, rfl⟩
            have HQ := Aside0.mk hq
            rw [← hq] at hx HS
            clear hq
            cases q with
            | true =>
              have HN := Aside0.mk (outK_nul (bitAt l) m G1 k hlt HQ.out.symm)
              go_wp2
              go_roundw
              case rel => exact ⟨k + 1, A6, c6, M, by omega, by go_num, rfl, hc6, ⟨by rw [HS.out]; exact HM.out⟩, HC6, ⟨HO.out.of_cast HN.out.symm⟩⟩
              case measure => simp [intOf]; omega
            | false =>
              have hcl := cnt_lt (bitAt l) k m hlt HQ.out.symm
              rw [← HCN.out] at hcl
              have hMl : 0 < M.length := by rw [HM.out, List.length_drop]; omega
              cases M with
              | nil => simp at hMl
              | cons x M =>
                have hgx : G1.getD (cntF (bitAt l) k) z39 = x := by
                  have h := HM.out
                  rw [List.drop_eq_getElem_cons (by omega)] at h
                  injection h with h1 h2
                  rw [h1, List.getD_eq_getElem?_getD, List.getElem?_eq_getElem (by omega)]
                  rfl
                have HMN : Aside0 (M = G1.drop (cntF (bitAt l) (k + 1))) := ⟨by
                  have h := HM.out
                  rw [List.drop_eq_getElem_cons (by omega)] at h
                  injection h with h1 h2
                  rw [h2, HS.out]; rfl⟩
                have HOV := Aside0.mk (outK_val (bitAt l) m G1 k hlt HQ.out.symm x hgx)
                have HOL := Aside0.mk (outK_length (bitAt l) m G1 k)
                clear hgx
                obtain ⟨a0, e6, x0, x1, x2⟩ := Own.val_in (Kd.C_below HC6.out HO.out.b)
                subst e6
                have hM1 : 0 < (x :: M).length := hMl
                obtain ⟨A7, kc1, kc2⟩ := cut_one39 a0 (x :: M).length c6 hMl hc6
                have HK2 := Aside0.mk (kc2 w3 x M HC6.out)
                have hlm : (x :: M).length = M.length + 1 := rfl
                rw [hlm] at hMl hM1 hc6 kc1 HK2 ⊢
                rw [Nat.add_sub_cancel] at kc1 HK2
                clear kc2 hlm hcl
                obtain ⟨g8, c8, e8, _, _, cells, hcs⟩ := Kd.R_form HO.out.r (by rw [outK_length]; omega)
                injection e8 with e81 e82 e83
                subst e81
                clear e82 e83
                obtain ⟨ad5, e7, y0, y1, y2⟩ := at_T39 (Kd.R_reads' HO.out.r).2.2 (k : Int) (by omega) (by rw [outK_length]; omega)
                cases e7
                rw [Int.toNat_natCast] at y0 y1 y2
                simp only [add_plain] at y0 y1 y2
                have z0 := blk_frozen hcs (k * 3)
                have z1 := blk_frozen hcs (k * 3 + 1)
                have z2 := blk_frozen hcs (k * 3 + 2)
                have hM2 : (0 : Int) < ((M.length + 1 : Nat) : Int) := by omega
                have hM3 : (0 : Int) < (M.length : Int) + 1 := by omega
                clear hcs
                go_wp2_with fail
                refine start_ (n := 10) (S := fun W' => W'.cell? a0 = some (.int .u8 x.f0) ∧ W'.cell? ⟨a0.block, a0.off + 1, none⟩ = some (.int .i64 x.f1) ∧ W'.cell? ⟨a0.block, a0.off + 2, none⟩ = some (.string x.f2)) (ds := [8]) #[false, false, false, false, false, false, false, false, false, false] (by kernel_rfl) rfl rfl (⟨x0, x1, x2⟩) (fun hHeld => ?_)
                refine with_tabW GC58.tab22 GC58.bits22 (fun HT_ HW_ => ?_)
                refine pure_ (i := 0) (N := some 79) (v := ?_) (a' := ?_) #[true, false, false, false, false, false, false, false, false, false] rfl rfl (any_of HT_.out (by kernel_rfl)) (fun _ _ _ h => h) (Or.inl ⟨by rfl, ?_⟩) ?_ ?_
                rotate_left
                · intro w'
                  go_simp
                  with_reducible rfl
                rotate_left
                · simp only [Act.put, List.setIfInBounds_toArray, List.set_cons_zero, List.set_cons_succ, i64_w, i32_w]
                  rfl
                refine pure_ (i := 1) (N := some 80) (v := ?_) (a' := ?_) #[true, true, false, false, false, false, false, false, false, false] rfl rfl (any_of HT_.out (by kernel_rfl)) (fun _ _ _ h => h) (Or.inl ⟨by rfl, ?_⟩) ?_ ?_
                rotate_left
                · intro w'
                  go_simp
                  with_reducible rfl
                rotate_left
                · simp only [Act.put, List.setIfInBounds_toArray, List.set_cons_zero, List.set_cons_succ, i64_w, i32_w]
                  rfl
                refine pure_ (i := 2) (N := some 81) (v := ?_) (a' := ?_) #[true, true, true, false, false, false, false, false, false, false] rfl rfl (any_of HT_.out (by kernel_rfl)) (fun _ _ _ h => h) (Or.inl ⟨by rfl, ?_⟩) ?_ ?_
                rotate_left
                · intro w'
                  go_simp
                  with_reducible rfl
                rotate_left
                · simp only [Act.put, List.setIfInBounds_toArray, List.set_cons_zero, List.set_cons_succ, i64_w, i32_w]
                  rfl
                refine pure_ (i := 3) (N := some 82) (v := ?_) (a' := ?_) #[true, true, true, true, false, false, false, false, false, false] rfl rfl (any_of HT_.out (by kernel_rfl)) (fun _ _ _ h => h) (Or.inl ⟨by rfl, ?_⟩) ?_ ?_
                rotate_left
                · intro w'
                  go_simp
                  with_reducible rfl
                rotate_left
                · simp only [Act.put, List.setIfInBounds_toArray, List.set_cons_zero, List.set_cons_succ, i64_w, i32_w]
                  rfl
                refine take_ (i := 4) (N := some 83) (v := ?_) (a' := ?_) #[true, true, true, true, true, false, false, false, false, false] rfl rfl (take_ofW HT_.out HW_.out (by kernel_rfl)) (fun _ _ _ h => h) (Or.inl ⟨by rfl, ?_⟩) hHeld ?_ ?_
                rotate_left
                · intro w' s0
                  (try dsimp only at s0)
                  (try go_split_ands)
                  go_simp
                  with_reducible rfl
                rotate_left
                · simp only [Act.put, List.setIfInBounds_toArray, List.set_cons_zero, List.set_cons_succ, i64_w, i32_w]
                  rfl
                refine pure_ (i := 5) (N := some 84) (v := ?_) (a' := ?_) #[true, true, true, true, true, true, false, false, false, false] rfl rfl (any_of HT_.out (by kernel_rfl)) (fun _ _ _ h => h) (Or.inl ⟨by rfl, ?_⟩) ?_ ?_
                rotate_left
                · intro w'
                  go_simp
                  with_reducible rfl
                rotate_left
                · simp only [Act.put, List.setIfInBounds_toArray, List.set_cons_zero, List.set_cons_succ, i64_w, i32_w]
                  rfl
                refine pure_ (i := 6) (N := some 85) (v := ?_) (a' := ?_) #[true, true, true, true, true, true, true, false, false, false] rfl rfl (any_of HT_.out (by kernel_rfl)) (fun _ _ _ h => h) (Or.inl ⟨by rfl, ?_⟩) ?_ ?_
                rotate_left
                · intro w'
                  go_simp
                  with_reducible rfl
                rotate_left
                · simp only [Act.put, List.setIfInBounds_toArray, List.set_cons_zero, List.set_cons_succ, i64_w, i32_w]
                  rfl
                refine pure_ (i := 7) (N := some 86) (v := ?_) (a' := ?_) #[true, true, true, true, true, true, true, true, false, false] rfl rfl (any_of HT_.out (by kernel_rfl)) (fun _ _ _ h => h) (Or.inl ⟨by rfl, ?_⟩) ?_ ?_
                rotate_left
                · intro w'
                  go_simp
                  with_reducible rfl
                rotate_left
                · simp only [Act.put, List.setIfInBounds_toArray, List.set_cons_zero, List.set_cons_succ, i64_w, i32_w]
                  rfl
                refine last_ (i := 8) (N := none) #[true, true, true, true, true, true, true, true, true, false] rfl rfl (one_of HT_.out (by kernel_rfl)) (by decide) (fun K hK => ?_)
                refine skip_ (w1 := ?_) (by rfl) rfl ?_ ?_
                rotate_left
                · go_simp
                  rfl
                refine hK.out _ _ ?_
                clear hK K
                refine pure_ (i := 9) (N := some 16) (v := ?_) (a' := ?_) #[true, true, true, true, true, true, true, true, true, true] rfl rfl (any_of HT_.out (by kernel_rfl)) (fun _ _ _ h => h) (Or.inl ⟨by rfl, ?_⟩) ?_ ?_
                rotate_left
                · intro w'
                  go_simp
                  with_reducible rfl
                rotate_left
                · simp only [Act.put, List.setIfInBounds_toArray, List.set_cons_zero, List.set_cons_succ, i64_w, i32_w]
                  rfl
                refine done_ (done_of HT_.out (by kernel_rfl)) ?_
                go_wp2_with fail
                have HO7 := Aside0.mk ((Own.putV HO.out k (by rw [HOL.out]; exact hlt) x).drew)
                go_roundw
                case rel => exact ⟨k + 1, A7, c6 - 1, M, by omega, by go_num, rfl, by omega, HMN, HK2, ⟨HO7.out.of_cast HOV.out⟩⟩
                case measure => simp [intOf]; omega
          · obtain rfl : m = k := by omega
            go_wp2
            go_ret2
            have HO8 := HO.out.of_cast (outK_all (bitAt l) m G1)
            rw [HRE2.out]
            exact ⟨_, rfl, Kd.R_lower HO8.r (Nat.le_trans HBW.out.size (by have := HB3.out.size; exact this)), below_then HBW.out HBW.out.size (below_then HB3.out HB3.out.size HO8.b)⟩
      · have HRE2 := Aside0.mk (show r = ([], G2) by rw [HRE.out, if_pos he])
        have q0 : (G2 == 0) = false := beq_eq_false_iff_ne.mpr he
        have q1 : (G2 != 0) = true := by simp [bne, q0]
        clear he
        go_wp2_with (go_at_call 134; refine MG.out.mono ?_; rintro e w3 ⟨v3, rfl, hr3, hb3⟩; have HB3 := Aside0.mk (below_then HB2.out HB2.out.size hb3); clear hr3 hb3)
        go_ret2
        exact FIN.out _ _ HB3.out HRE2.out
set_option maxRecDepth 100000 in
set_option maxHeartbeats 3200000 in
theorem column_Get_2 (A : Option Addr) (c : Nat) (l : List Int) (m : Nat) (hm : m ≤ 65536) (hll : l.length ≤ 400000) (w : World) (hr : Kd.C (Kd.int .u8) w A l.length l) (hc : l.length ≤ c) (hb : ∀ x ∈ l, isByte x = true) :
    Calls Try.prog 58 #[.int .u8 2, .slice A l.length c, .int .i64 m] w (GetVPost w (getCol 2 l m)) := by
  have hmm := cway_look 2 (w.alloc (.map cwaysMap 3)) (b := w.heap.size) (heap_alloc_new w _)
  have hw1 : wayP 2 = .func (.func 135) #[] #[] := rfl
  have hw2 : wayG 2 = .func (.func 136) #[] #[] := rfl
  have hw3 : kindB 2 = true := rfl
  rw [hw1, hw2, hw3] at hmm
  clear hw1 hw2 hw3
  obtain ⟨W1, hW1⟩ : ∃ W, W = (w.alloc (.map cwaysMap 3)).alloc (.cells #[.func (.func 135) #[] #[], .func (.func 136) #[] #[]] 113) := ⟨_, rfl⟩
  have HBW := Aside0.mk (show Below w.heap.size w W1 by rw [hW1]; exact ((Below.refl _ _).alloc (Nat.le_refl _) _).alloc (by simp) _)
  have HG : Aside0 (W1.heap[w.heap.size + 1]? = some (.cells #[.func (.func 135) #[] #[], .func (.func 136) #[] #[]] 113 (0, 0))) := ⟨by rw [hW1]; have := heap_alloc_new (w.alloc (.map cwaysMap 3)) (.cells #[.func (.func 135) #[] #[], .func (.func 136) #[] #[]] 113); rwa [World.size_alloc] at this⟩
  have hr1 := Kd.C_below hr HBW.out
  have HR1 := Aside0.mk hr1
  obtain ⟨r, hR⟩ : ∃ r, r = getCol 2 l m := ⟨_, rfl⟩
  rw [← hR]
  unfold getCol at hR
  have hm0 : (0 : Int) ≤ (m : Int) := by omega
  have hm1 : (m : Int) ≤ 65536 := by omega
  have fin : ∀ (w' : World) (e : Int), Below W1.heap.size W1 w' → r = ([], e) → GetVPost w r (.returned (.tuple #[.slice none 0 0, .int .i64 e])) w' := fun w' e hb he => by subst he; exact getV_nil _ _ _ (below_then HBW.out HBW.out.size hb)
  have FIN := Aside0.mk fin
  clear fin
  by_cases h1 : l.length < (m + 7) / 8
  · rw [if_pos h1] at hR
    have M := Aside0.mk (take_short A c l m W1 (by omega) h1)
    have HRE := Aside0.mk hR
    rw [hW1] at M
    clear h1 hr hb hr1 hR
    go_enter Try.func58, Try.ntmps58
    go_wp2_with (first
      | (go_at_call 89; refine (cways_any _).mono ?_; rintro e w' ⟨rfl, rfl⟩)
      | (go_at_call 101; refine M.out.mono ?_; rintro e w1 ⟨rfl, rfl⟩))
    go_ret2
    exact FIN.out _ _ (by rw [hW1]; exact Below.refl _ _) HRE.out
  rw [if_neg h1] at hR
  have M0 := take_any A c l m W1 (by omega) (by omega) hr1 hc hb (by omega)
  by_cases h2 : loose l m = true
  · rw [if_pos h2] at hR
    rw [h2] at M0
    have M : Aside0 (Calls Try.prog 101 #[.slice A l.length c, .int .i64 m] W1 fun e w' => e = .returned (.tuple #[.slice none 0 0, .slice none 0 0, .int .i64 21]) ∧ Aside0 (Below W1.heap.size W1 w')) := ⟨M0.mono fun e w' h => by
      rcases h with ⟨_, h1, h2⟩ | ⟨h, _⟩
      · exact ⟨h1, ⟨h2⟩⟩
      · cases h⟩
    have HRE := Aside0.mk hR
    rw [hW1] at M FIN
    clear h1 h2 M0 hr hb hr1 hR HR1 HG HBW hW1
    go_enter Try.func58, Try.ntmps58
    go_wp2_with (first
      | (go_at_call 89; refine (cways_any _).mono ?_; rintro e w' ⟨rfl, rfl⟩)
      | (go_at_call 101; refine M.out.mono ?_; rintro e w1 ⟨rfl, HB⟩))
    go_ret2
    exact FIN.out _ _ HB.out HRE.out
  rw [if_neg h2] at hR
  rw [Bool.not_eq_true] at h2
  rw [h2] at M0
  obtain ⟨R, hRR⟩ : ∃ R, R = l.drop ((m + 7) / 8) := ⟨_, rfl⟩
  rw [← hRR] at hR
  have hRl : R.length = l.length - (m + 7) / 8 := by rw [hRR, List.length_drop]
  have HRB : Aside0 (∀ x ∈ R, isByte x = true) := ⟨fun x hx => hb x (by rw [hRR] at hx; exact List.mem_of_mem_drop hx)⟩
  have hR4 : R.length ≤ 400000 := by omega
  have M : Aside0 (Calls Try.prog 101 #[.slice A l.length c, .int .i64 m] W1 fun e w' => ∃ A1 c1 A' c', e = .returned (.tuple #[.slice A1 m c1, .slice A' R.length c', .int .i64 0]) ∧ m ≤ c1 ∧ R.length ≤ c' ∧ Aside0 (Kd.C Kd.bool w' A1 m ((List.range m).map (bitAt l))) ∧ Aside0 (Kd.C (Kd.int .u8) w' A' R.length R) ∧ Aside0 (Below W1.heap.size W1 w')) := ⟨M0.mono fun e w' h => by
    rcases h with ⟨h, _⟩ | ⟨_, v, A', c', h1, h2, h3, h4⟩
    · cases h
    · obtain ⟨A1, n1, c1, e1, hn1, hc1, hC1⟩ := h3.sl'
      subst e1
      have hn2 : n1 = m := hn1.out.trans (by simp)
      subst hn2
      have h5 := h4 w' (Kd.C_below hr1 h3.b)
      rw [← hRR, ← hRl] at h5
      exact ⟨A1, c1, A', c', by rw [hRl]; exact h1, hc1, by rw [hRl]; exact h2, hC1, ⟨h5⟩, ⟨h3.b⟩⟩⟩
  have HRE := Aside0.mk hR
  obtain ⟨cn, hcn⟩ : ∃ cn, cn = cntF (bitAt l) m := ⟨_, rfl⟩
  have HCN := Aside0.mk hcn
  have hcm : cn ≤ m := by rw [hcn]; exact cnt_le _ _
  rw [← hcn] at HRE
  rw [hW1] at M FIN HG HBW
  clear h1 h2 M0 hr hb hr1 hR HR1 hW1 hRR hRl hcn
  go_enter Try.func58, Try.ntmps58
  go_wp2_with (first
    | (go_at_call 89; refine (cways_any _).mono ?_; rintro e w' ⟨rfl, rfl⟩)
    | (go_at_call 101; refine M.out.mono ?_; rintro e w2 ⟨A1, c1, A9, c9, rfl, hc1, hc9, HC1, HC9, HB2⟩))
  clear hmm M
  go_loop [13, 15, 48] (fun v13 v15 v48 => ∃ k : Nat, k ≤ m ∧ v48 = .int .i64 k ∧ v13 = .int .i64 (cntF (bitAt l) k)) (fun _ _ v48 => m - (intOf v48).toNat)
  case atStart => exact ⟨0, Nat.zero_le _, rfl, rfl⟩
  case round =>
    obtain ⟨k, hk, rfl, rfl⟩ := hrel
    by_cases hlt : k < m
    · have hkn : (k : Int) < (m : Int) := by omega
      obtain ⟨ad, e, hx⟩ := Kd.at_bool HC1.out (k : Int) (by omega) hkn
      cases e
      rw [Int.toNat_natCast, bits_rd l m k hlt] at hx
      have HS := Aside0.mk (cnt_succ (bitAt l) k)
      have hck := cnt_le (bitAt l) k
      obtain ⟨q, hq⟩ : ∃ q, q = bitAt l k := ⟨_, rfl⟩
      rw [← hq] at hx HS
      clear hq
      cases q with
      | true =>
        go_wp2
        go_round
        case rel => exact ⟨k + 1, by omega, by go_num, by rw [HS.out]; rfl⟩
        case measure => simp [intOf]; omega
      | false =>
        go_wp2
        go_round
        case rel => exact ⟨k + 1, by omega, by go_num, by rw [HS.out]; go_num⟩
        case measure => simp [intOf]; omega
    · obtain rfl : m = k := by omega
      rw [← HCN.out]
      have MG := Aside0.mk (getMarks_2 A9 c9 R cn w2 (by omega) hR4 HC9.out hc9 HRB.out)
      have ML := Aside0.mk (marks_len_eq 2 R cn HRB.out)
      obtain ⟨G, hG⟩ : ∃ G, G = getMarks 2 R cn := ⟨_, rfl⟩
      rw [← hG] at MG ML HRE
      clear hG
      have hg2 := (HB2.out.block _ (blk_lt HG.out)).trans HG.out
      have q2 : w2.cell? ⟨w.heap.size + 1, 1, none⟩ = some (.func (.func 136) #[] #[]) := cell_of_row _ _ _ _ _ _ hg2
      clear hg2 hlt hk
      obtain ⟨G1, G2⟩ := G
      dsimp only at ML HRE
      by_cases he : G2 = 0
      · subst he
        have HRE2 := Aside0.mk (show r = (merge (bitAt l) 0 m G1, 0) by rw [HRE.out, if_neg (by simp)])
        have hGl := ML.out rfl
        have HB3 := Aside0.mk (Below.refl w2.heap.size w2)
        go_wp2_with (first
          | (go_at_call 136; refine MG.out.mono ?_; rintro e w3 ⟨v3, rfl, hr3, hb3⟩; have HB3 := Aside0.mk (below_then HB2.out HB2.out.size hb3); have HBB := Aside0.mk (Below.refl w3.heap.size w3); have HC1b := Aside0.mk (Kd.C_below HC1.out hb3); obtain ⟨A4, c4, e4, hc4, hC4⟩ := Kd.R_reads hr3; subst e4; have HC4 := Aside0.mk hC4; clear hr3 hb3 hC4)
          | ((with_reducible refine gate_dst (N := 69) rfl ?_); refine Kd.R_make k39 w3.heap.size 39 rfl (N := 69) rfl 23 _ _ rfl (m : Int) rfl rfl Try.underlying23 (.agg #[(.int .u8 0), (.int .i64 0), (.string ⟨#[]⟩)]) 32 info39 rfl (by decide) (by omega) z39 (ok := fun _ => True) (okp := fun _ => True) (k39_mkM _ _ _ z39) (fun _ hk => hk) trivial (by omega) (by omega) HBB.out HBB.out.size ?_; intro v4 w4 ho hb hg hnew; have HO := Aside0.mk (Own.mk ho hb (Nat.le_trans HBB.out.size hg.size)); clear ho hb hg hnew; obtain ⟨A5, n5, c5, e5, hn5, hnc5, _⟩ := HO.out.sl'; have hn3 : m = n5 := (hn5.out.trans (by simp)).symm; subst e5; subst hn3; clear hn5))
        go_loopw [16, 18, 19, 72] (fun v16 v18 v19 v72 W => ∃ (k : Nat) (A6 : Option Addr) (c6 : Nat) (M : List S39), k ≤ m ∧ v72 = .int .i64 k ∧ v16 = .slice A6 M.length c6 ∧ M.length ≤ c6 ∧ Aside0 (M = G1.drop (cntF (bitAt l) k)) ∧ Aside0 (Kd.C k39 w3 A6 M.length M) ∧ Aside0 (Own k39 39 w3.heap.size w3 W (.slice A5 m c5) (outK (bitAt l) m G1 k))) (fun _ _ _ v72 _ => m - (intOf v72).toNat)
        case atStart => exact ⟨0, A4, c4, G1, Nat.zero_le _, rfl, by rw [hGl], hc4, ⟨by rw [cnt_zero]; rfl⟩, HC4, ⟨HO.out.of_cast (by rw [outK_zero, Int.toNat_natCast])⟩⟩
        case round =>
          clear HO HBB MG HC4
          obtain ⟨k, A6, c6, M, hk, rfl, rfl, hc6, HM, HC6, HO⟩ := hrel
          by_cases hlt : k < m
          · have hkn : (k : Int) < (m : Int) := by omega
            obtain ⟨ad, e, hx⟩ := Kd.at_bool (Kd.C_below HC1b.out HO.out.b) (k : Int) (by omega) hkn
            cases e
            rw [Int.toNat_natCast, bits_rd l m k hlt] at hx
            have HS := Aside0.mk (cnt_succ (bitAt l) k)
            obtain ⟨q, hq⟩ : ∃ q, q = bitAt l k := ⟨_, rfl⟩
            have HQ := Aside0.mk hq
            rw [← hq] at hx HS
            clear hq
            cases q with
            | true =>
              have HN := Aside0.mk (outK_nul (bitAt l) m G1 k hlt HQ.out.symm)
              go_wp2
              go_roundw
              case rel => exact ⟨k + 1, A6, c6, M, by omega, by go_num, rfl, hc6, ⟨by rw [HS.out]; exact HM.out⟩, HC6, ⟨HO.out.of_cast HN.out.symm⟩⟩
              case measure => simp [intOf]; omega
            | false =>
              have hcl := cnt_lt (bitAt l) k m hlt HQ.out.symm
              rw [← HCN.out] at hcl
              have hMl : 0 < M.length := by rw [HM.out, List.length_drop]; omega
              cases M with
              | nil => simp at hMl
              | cons x M =>
                have hgx : G1.getD (cntF (bitAt l) k) z39 = x := by
                  have h := HM.out
                  rw [List.drop_eq_getElem_cons (by omega)] at h
                  injection h with h1 h2
                  rw [h1, List.getD_eq_getElem?_getD, List.getElem?_eq_getElem (by omega)]
                  rfl
                have HMN : Aside0 (M = G1.drop (cntF (bitAt l) (k + 1))) := ⟨by
                  have h := HM.out
                  rw [List.drop_eq_getElem_cons (by omega)] at h
                  injection h with h1 h2
                  rw [h2, HS.out]; rfl⟩
                have HOV := Aside0.mk (outK_val (bitAt l) m G1 k hlt HQ.out.symm x hgx)
                have HOL := Aside0.mk (outK_length (bitAt l) m G1 k)
                clear hgx
                obtain ⟨a0, e6, x0, x1, x2⟩ := Own.val_in (Kd.C_below HC6.out HO.out.b)
                subst e6
                have hM1 : 0 < (x :: M).length := hMl
                obtain ⟨A7, kc1, kc2⟩ := cut_one39 a0 (x :: M).length c6 hMl hc6
                have HK2 := Aside0.mk (kc2 w3 x M HC6.out)
                have hlm : (x :: M).length = M.length + 1 := rfl
                rw [hlm] at hMl hM1 hc6 kc1 HK2 ⊢
                rw [Nat.add_sub_cancel] at kc1 HK2
                clear kc2 hlm hcl
                obtain ⟨g8, c8, e8, _, _, cells, hcs⟩ := Kd.R_form HO.out.r (by rw [outK_length]; omega)
                injection e8 with e81 e82 e83
                subst e81
                clear e82 e83
                obtain ⟨ad5, e7, y0, y1, y2⟩ := at_T39 (Kd.R_reads' HO.out.r).2.2 (k : Int) (by omega) (by rw [outK_length]; omega)
                cases e7
                rw [Int.toNat_natCast] at y0 y1 y2
                simp only [add_plain] at y0 y1 y2
                have z0 := blk_frozen hcs (k * 3)
                have z1 := blk_frozen hcs (k * 3 + 1)
                have z2 := blk_frozen hcs (k * 3 + 2)
                have hM2 : (0 : Int) < ((M.length + 1 : Nat) : Int) := by omega
                have hM3 : (0 : Int) < (M.length : Int) + 1 := by omega
                clear hcs
                go_wp2_with fail
                refine start_ (n := 10) (S := fun W' => W'.cell? a0 = some (.int .u8 x.f0) ∧ W'.cell? ⟨a0.block, a0.off + 1, none⟩ = some (.int .i64 x.f1) ∧ W'.cell? ⟨a0.block, a0.off + 2, none⟩ = some (.string x.f2)) (ds := [8]) #[false, false, false, false, false, false, false, false, false, false] (by kernel_rfl) rfl rfl (⟨x0, x1, x2⟩) (fun hHeld => ?_)
                refine with_tabW GC58.tab22 GC58.bits22 (fun HT_ HW_ => ?_)
                refine pure_ (i := 0) (N := some 79) (v := ?_) (a' := ?_) #[true, false, false, false, false, false, false, false, false, false] rfl rfl (any_of HT_.out (by kernel_rfl)) (fun _ _ _ h => h) (Or.inl ⟨by rfl, ?_⟩) ?_ ?_
                rotate_left
                · intro w'
                  go_simp
                  with_reducible rfl
                rotate_left
                · simp only [Act.put, List.setIfInBounds_toArray, List.set_cons_zero, List.set_cons_succ, i64_w, i32_w]
                  rfl
                refine pure_ (i := 1) (N := some 80) (v := ?_) (a' := ?_) #[true, true, false, false, false, false, false, false, false, false] rfl rfl (any_of HT_.out (by kernel_rfl)) (fun _ _ _ h => h) (Or.inl ⟨by rfl, ?_⟩) ?_ ?_
                rotate_left
                · intro w'
                  go_simp
                  with_reducible rfl
                rotate_left
                · simp only [Act.put, List.setIfInBounds_toArray, List.set_cons_zero, List.set_cons_succ, i64_w, i32_w]
                  rfl
                refine pure_ (i := 2) (N := some 81) (v := ?_) (a' := ?_) #[true, true, true, false, false, false, false, false, false, false] rfl rfl (any_of HT_.out (by kernel_rfl)) (fun _ _ _ h => h) (Or.inl ⟨by rfl, ?_⟩) ?_ ?_
                rotate_left
                · intro w'
                  go_simp
                  with_reducible rfl
                rotate_left
                · simp only [Act.put, List.setIfInBounds_toArray, List.set_cons_zero, List.set_cons_succ, i64_w, i32_w]
                  rfl
                refine pure_ (i := 3) (N := some 82) (v := ?_) (a' := ?_) #[true, true, true, true, false, false, false, false, false, false] rfl rfl (any_of HT_.out (by kernel_rfl)) (fun _ _ _ h => h) (Or.inl ⟨by rfl, ?_⟩) ?_ ?_
                rotate_left
                · intro w'
                  go_simp
                  with_reducible rfl
                rotate_left
                · simp only [Act.put, List.setIfInBounds_toArray, List.set_cons_zero, List.set_cons_succ, i64_w, i32_w]
                  rfl
                refine take_ (i := 4) (N := some 83) (v := ?_) (a' := ?_) #[true, true, true, true, true, false, false, false, false, false] rfl rfl (take_ofW HT_.out HW_.out (by kernel_rfl)) (fun _ _ _ h => h) (Or.inl ⟨by rfl, ?_⟩) hHeld ?_ ?_
                rotate_left
                · intro w' s0
                  (try dsimp only at s0)
                  (try go_split_ands)
                  go_simp
                  with_reducible rfl
                rotate_left
                · simp only [Act.put, List.setIfInBounds_toArray, List.set_cons_zero, List.set_cons_succ, i64_w, i32_w]
                  rfl
                refine pure_ (i := 5) (N := some 84) (v := ?_) (a' := ?_) #[true, true, true, true, true, true, false, false, false, false] rfl rfl (any_of HT_.out (by kernel_rfl)) (fun _ _ _ h => h) (Or.inl ⟨by rfl, ?_⟩) ?_ ?_
                rotate_left
                · intro w'
                  go_simp
                  with_reducible rfl
                rotate_left
                · simp only [Act.put, List.setIfInBounds_toArray, List.set_cons_zero, List.set_cons_succ, i64_w, i32_w]
                  rfl
                refine pure_ (i := 6) (N := some 85) (v := ?_) (a' := ?_) #[true, true, true, true, true, true, true, false, false, false] rfl rfl (any_of HT_.out (by kernel_rfl)) (fun _ _ _ h => h) (Or.inl ⟨by rfl, ?_⟩) ?_ ?_
                rotate_left
                · intro w'
                  go_simp
                  with_reducible rfl
                rotate_left
                · simp only [Act.put, List.setIfInBounds_toArray, List.set_cons_zero, List.set_cons_succ, i64_w, i32_w]
                  rfl
                refine pure_ (i := 7) (N := some 86) (v := ?_) (a' := ?_) #[true, true, true, true, true, true, true, true, false, false] rfl rfl (any_of HT_.out (by kernel_rfl)) (fun _ _ _ h => h) (Or.inl ⟨by rfl, ?_⟩) ?_ ?_
                rotate_left
                · intro w'
                  go_simp
                  with_reducible rfl
                rotate_left
                · simp only [Act.put, List.setIfInBounds_toArray, List.set_cons_zero, List.set_cons_succ, i64_w, i32_w]
                  rfl
                refine last_ (i := 8) (N := none) #[true, true, true, true, true, true, true, true, true, false] rfl rfl (one_of HT_.out (by kernel_rfl)) (by decide) (fun K hK => ?_)
                refine skip_ (w1 := ?_) (by rfl) rfl ?_ ?_
                rotate_left
                · go_simp
                  rfl
                refine hK.out _ _ ?_
                clear hK K
                refine pure_ (i := 9) (N := some 16) (v := ?_) (a' := ?_) #[true, true, true, true, true, true, true, true, true, true] rfl rfl (any_of HT_.out (by kernel_rfl)) (fun _ _ _ h => h) (Or.inl ⟨by rfl, ?_⟩) ?_ ?_
                rotate_left
                · intro w'
                  go_simp
                  with_reducible rfl
                rotate_left
                · simp only [Act.put, List.setIfInBounds_toArray, List.set_cons_zero, List.set_cons_succ, i64_w, i32_w]
                  rfl
                refine done_ (done_of HT_.out (by kernel_rfl)) ?_
                go_wp2_with fail
                have HO7 := Aside0.mk ((Own.putV HO.out k (by rw [HOL.out]; exact hlt) x).drew)
                go_roundw
                case rel => exact ⟨k + 1, A7, c6 - 1, M, by omega, by go_num, rfl, by omega, HMN, HK2, ⟨HO7.out.of_cast HOV.out⟩⟩
                case measure => simp [intOf]; omega
          · obtain rfl : m = k := by omega
            go_wp2
            go_ret2
            have HO8 := HO.out.of_cast (outK_all (bitAt l) m G1)
            rw [HRE2.out]
            exact ⟨_, rfl, Kd.R_lower HO8.r (Nat.le_trans HBW.out.size (by have := HB3.out.size; exact this)), below_then HBW.out HBW.out.size (below_then HB3.out HB3.out.size HO8.b)⟩
      · have HRE2 := Aside0.mk (show r = ([], G2) by rw [HRE.out, if_pos he])
        have q0 : (G2 == 0) = false := beq_eq_false_iff_ne.mpr he
        have q1 : (G2 != 0) = true := by simp [bne, q0]
        clear he
        go_wp2_with (go_at_call 136; refine MG.out.mono ?_; rintro e w3 ⟨v3, rfl, hr3, hb3⟩; have HB3 := Aside0.mk (below_then HB2.out HB2.out.size hb3); clear hr3 hb3)
        go_ret2
        exact FIN.out _ _ HB3.out HRE2.out
set_option maxRecDepth 100000 in
set_option maxHeartbeats 3200000 in
theorem column_Get_3 (A : Option Addr) (c : Nat) (l : List Int) (m : Nat) (hm : m ≤ 65536) (hll : l.length ≤ 400000) (w : World) (hr : Kd.C (Kd.int .u8) w A l.length l) (hc : l.length ≤ c) (hb : ∀ x ∈ l, isByte x = true) :
    Calls Try.prog 58 #[.int .u8 3, .slice A l.length c, .int .i64 m] w (GetVPost w (getCol 3 l m)) := by
  have hmm := cway_look 3 (w.alloc (.map cwaysMap 3)) (b := w.heap.size) (heap_alloc_new w _)
  have hw1 : wayP 3 = .func (.func 137) #[] #[] := rfl
  have hw2 : wayG 3 = .func (.func 138) #[] #[] := rfl
  have hw3 : kindB 3 = true := rfl
  rw [hw1, hw2, hw3] at hmm
  clear hw1 hw2 hw3
  obtain ⟨W1, hW1⟩ : ∃ W, W = (w.alloc (.map cwaysMap 3)).alloc (.cells #[.func (.func 137) #[] #[], .func (.func 138) #[] #[]] 113) := ⟨_, rfl⟩
  have HBW := Aside0.mk (show Below w.heap.size w W1 by rw [hW1]; exact ((Below.refl _ _).alloc (Nat.le_refl _) _).alloc (by simp) _)
  have HG : Aside0 (W1.heap[w.heap.size + 1]? = some (.cells #[.func (.func 137) #[] #[], .func (.func 138) #[] #[]] 113 (0, 0))) := ⟨by rw [hW1]; have := heap_alloc_new (w.alloc (.map cwaysMap 3)) (.cells #[.func (.func 137) #[] #[], .func (.func 138) #[] #[]] 113); rwa [World.size_alloc] at this⟩
  have hr1 := Kd.C_below hr HBW.out
  have HR1 := Aside0.mk hr1
  obtain ⟨r, hR⟩ : ∃ r, r = getCol 3 l m := ⟨_, rfl⟩
  rw [← hR]
  unfold getCol at hR
  have hm0 : (0 : Int) ≤ (m : Int) := by omega
  have hm1 : (m : Int) ≤ 65536 := by omega
  have fin : ∀ (w' : World) (e : Int), Below W1.heap.size W1 w' → r = ([], e) → GetVPost w r (.returned (.tuple #[.slice none 0 0, .int .i64 e])) w' := fun w' e hb he => by subst he; exact getV_nil _ _ _ (below_then HBW.out HBW.out.size hb)
  have FIN := Aside0.mk fin
  clear fin
  by_cases h1 : l.length < (m + 7) / 8
  · rw [if_pos h1] at hR
    have M := Aside0.mk (take_short A c l m W1 (by omega) h1)
    have HRE := Aside0.mk hR
    rw [hW1] at M
    clear h1 hr hb hr1 hR
    go_enter Try.func58, Try.ntmps58
    go_wp2_with (first
      | (go_at_call 89; refine (cways_any _).mono ?_; rintro e w' ⟨rfl, rfl⟩)
      | (go_at_call 101; refine M.out.mono ?_; rintro e w1 ⟨rfl, rfl⟩))
    go_ret2
    exact FIN.out _ _ (by rw [hW1]; exact Below.refl _ _) HRE.out
  rw [if_neg h1] at hR
  have M0 := take_any A c l m W1 (by omega) (by omega) hr1 hc hb (by omega)
  by_cases h2 : loose l m = true
  · rw [if_pos h2] at hR
    rw [h2] at M0
    have M : Aside0 (Calls Try.prog 101 #[.slice A l.length c, .int .i64 m] W1 fun e w' => e = .returned (.tuple #[.slice none 0 0, .slice none 0 0, .int .i64 21]) ∧ Aside0 (Below W1.heap.size W1 w')) := ⟨M0.mono fun e w' h => by
      rcases h with ⟨_, h1, h2⟩ | ⟨h, _⟩
      · exact ⟨h1, ⟨h2⟩⟩
      · cases h⟩
    have HRE := Aside0.mk hR
    rw [hW1] at M FIN
    clear h1 h2 M0 hr hb hr1 hR HR1 HG HBW hW1
    go_enter Try.func58, Try.ntmps58
    go_wp2_with (first
      | (go_at_call 89; refine (cways_any _).mono ?_; rintro e w' ⟨rfl, rfl⟩)
      | (go_at_call 101; refine M.out.mono ?_; rintro e w1 ⟨rfl, HB⟩))
    go_ret2
    exact FIN.out _ _ HB.out HRE.out
  rw [if_neg h2] at hR
  rw [Bool.not_eq_true] at h2
  rw [h2] at M0
  obtain ⟨R, hRR⟩ : ∃ R, R = l.drop ((m + 7) / 8) := ⟨_, rfl⟩
  rw [← hRR] at hR
  have hRl : R.length = l.length - (m + 7) / 8 := by rw [hRR, List.length_drop]
  have HRB : Aside0 (∀ x ∈ R, isByte x = true) := ⟨fun x hx => hb x (by rw [hRR] at hx; exact List.mem_of_mem_drop hx)⟩
  have hR4 : R.length ≤ 400000 := by omega
  have M : Aside0 (Calls Try.prog 101 #[.slice A l.length c, .int .i64 m] W1 fun e w' => ∃ A1 c1 A' c', e = .returned (.tuple #[.slice A1 m c1, .slice A' R.length c', .int .i64 0]) ∧ m ≤ c1 ∧ R.length ≤ c' ∧ Aside0 (Kd.C Kd.bool w' A1 m ((List.range m).map (bitAt l))) ∧ Aside0 (Kd.C (Kd.int .u8) w' A' R.length R) ∧ Aside0 (Below W1.heap.size W1 w')) := ⟨M0.mono fun e w' h => by
    rcases h with ⟨h, _⟩ | ⟨_, v, A', c', h1, h2, h3, h4⟩
    · cases h
    · obtain ⟨A1, n1, c1, e1, hn1, hc1, hC1⟩ := h3.sl'
      subst e1
      have hn2 : n1 = m := hn1.out.trans (by simp)
      subst hn2
      have h5 := h4 w' (Kd.C_below hr1 h3.b)
      rw [← hRR, ← hRl] at h5
      exact ⟨A1, c1, A', c', by rw [hRl]; exact h1, hc1, by rw [hRl]; exact h2, hC1, ⟨h5⟩, ⟨h3.b⟩⟩⟩
  have HRE := Aside0.mk hR
  obtain ⟨cn, hcn⟩ : ∃ cn, cn = cntF (bitAt l) m := ⟨_, rfl⟩
  have HCN := Aside0.mk hcn
  have hcm : cn ≤ m := by rw [hcn]; exact cnt_le _ _
  rw [← hcn] at HRE
  rw [hW1] at M FIN HG HBW
  clear h1 h2 M0 hr hb hr1 hR HR1 hW1 hRR hRl hcn
  go_enter Try.func58, Try.ntmps58
  go_wp2_with (first
    | (go_at_call 89; refine (cways_any _).mono ?_; rintro e w' ⟨rfl, rfl⟩)
    | (go_at_call 101; refine M.out.mono ?_; rintro e w2 ⟨A1, c1, A9, c9, rfl, hc1, hc9, HC1, HC9, HB2⟩))
  clear hmm M
  go_loop [13, 15, 48] (fun v13 v15 v48 => ∃ k : Nat, k ≤ m ∧ v48 = .int .i64 k ∧ v13 = .int .i64 (cntF (bitAt l) k)) (fun _ _ v48 => m - (intOf v48).toNat)
  case atStart => exact ⟨0, Nat.zero_le _, rfl, rfl⟩
  case round =>
    obtain ⟨k, hk, rfl, rfl⟩ := hrel
    by_cases hlt : k < m
    · have hkn : (k : Int) < (m : Int) := by omega
      obtain ⟨ad, e, hx⟩ := Kd.at_bool HC1.out (k : Int) (by omega) hkn
      cases e
      rw [Int.toNat_natCast, bits_rd l m k hlt] at hx
      have HS := Aside0.mk (cnt_succ (bitAt l) k)
      have hck := cnt_le (bitAt l) k
      obtain ⟨q, hq⟩ : ∃ q, q = bitAt l k := ⟨_, rfl⟩
      rw [← hq] at hx HS
      clear hq
      cases q with
      | true =>
        go_wp2
        go_round
        case rel => exact ⟨k + 1, by omega, by go_num, by rw [HS.out]; rfl⟩
        case measure => simp [intOf]; omega
      | false =>
        go_wp2
        go_round
        case rel => exact ⟨k + 1, by omega, by go_num, by rw [HS.out]; go_num⟩
        case measure => simp [intOf]; omega
    · obtain rfl : m = k := by omega
      rw [← HCN.out]
      have MG := Aside0.mk (getMarks_3 A9 c9 R cn w2 (by omega) hR4 HC9.out hc9 HRB.out)
      have ML := Aside0.mk (marks_len_eq 3 R cn HRB.out)
      obtain ⟨G, hG⟩ : ∃ G, G = getMarks 3 R cn := ⟨_, rfl⟩
      rw [← hG] at MG ML HRE
      clear hG
      have hg2 := (HB2.out.block _ (blk_lt HG.out)).trans HG.out
      have q2 : w2.cell? ⟨w.heap.size + 1, 1, none⟩ = some (.func (.func 138) #[] #[]) := cell_of_row _ _ _ _ _ _ hg2
      clear hg2 hlt hk
      obtain ⟨G1, G2⟩ := G
      dsimp only at ML HRE
      by_cases he : G2 = 0
      · subst he
        have HRE2 := Aside0.mk (show r = (merge (bitAt l) 0 m G1, 0) by rw [HRE.out, if_neg (by simp)])
        have hGl := ML.out rfl
        have HB3 := Aside0.mk (Below.refl w2.heap.size w2)
        go_wp2_with (first
          | (go_at_call 138; refine MG.out.mono ?_; rintro e w3 ⟨v3, rfl, hr3, hb3⟩; have HB3 := Aside0.mk (below_then HB2.out HB2.out.size hb3); have HBB := Aside0.mk (Below.refl w3.heap.size w3); have HC1b := Aside0.mk (Kd.C_below HC1.out hb3); obtain ⟨A4, c4, e4, hc4, hC4⟩ := Kd.R_reads hr3; subst e4; have HC4 := Aside0.mk hC4; clear hr3 hb3 hC4)
          | ((with_reducible refine gate_dst (N := 69) rfl ?_); refine Kd.R_make k39 w3.heap.size 39 rfl (N := 69) rfl 23 _ _ rfl (m : Int) rfl rfl Try.underlying23 (.agg #[(.int .u8 0), (.int .i64 0), (.string ⟨#[]⟩)]) 32 info39 rfl (by decide) (by omega) z39 (ok := fun _ => True) (okp := fun _ => True) (k39_mkM _ _ _ z39) (fun _ hk => hk) trivial (by omega) (by omega) HBB.out HBB.out.size ?_; intro v4 w4 ho hb hg hnew; have HO := Aside0.mk (Own.mk ho hb (Nat.le_trans HBB.out.size hg.size)); clear ho hb hg hnew; obtain ⟨A5, n5, c5, e5, hn5, hnc5, _⟩ := HO.out.sl'; have hn3 : m = n5 := (hn5.out.trans (by simp)).symm; subst e5; subst hn3; clear hn5))
        go_loopw [16, 18, 19, 72] (fun v16 v18 v19 v72 W => ∃ (k : Nat) (A6 : Option Addr) (c6 : Nat) (M : List S39), k ≤ m ∧ v72 = .int .i64 k ∧ v16 = .slice A6 M.length c6 ∧ M.length ≤ c6 ∧ Aside0 (M = G1.drop (cntF (bitAt l) k)) ∧ Aside0 (Kd.C k39 w3 A6 M.length M) ∧ Aside0 (Own k39 39 w3.heap.size w3 W (.slice A5 m c5) (outK (bitAt l) m G1 k))) (fun _ _ _ v72 _ => m - (intOf v72).toNat)
        case atStart => exact ⟨0, A4, c4, G1, Nat.zero_le _, rfl, by rw [hGl], hc4, ⟨by rw [cnt_zero]; rfl⟩, HC4, ⟨HO.out.of_cast (by rw [outK_zero, Int.toNat_natCast])⟩⟩
        case round =>
          clear HO HBB MG HC4
          obtain ⟨k, A6, c6, M, hk, rfl, rfl, hc6, HM, HC6, HO⟩ := hrel
          by_cases hlt : k < m
          · have hkn : (k : Int) < (m : Int) := by omega
            obtain ⟨ad, e, hx⟩ := Kd.at_bool (Kd.C_below HC1b.out HO.out.b) (k : Int) (by omega) hkn
            cases e
            rw [Int.toNat_natCast, bits_rd l m k hlt] at hx
            have HS := Aside0.mk (cnt_succ (bitAt l) k)
            obtain ⟨q, hq⟩ : ∃ q, q = bitAt l k := ⟨_, rfl⟩
            have HQ := Aside0.mk hq
            rw [← hq] at hx HS
            clear hq
            cases q with
            | true =>
              have HN := Aside0.mk (outK_nul (bitAt l) m G1 k hlt HQ.out.symm)
              go_wp2
              go_roundw
              case rel => exact ⟨k + 1, A6, c6, M, by omega, by go_num, rfl, hc6, ⟨by rw [HS.out]; exact HM.out⟩, HC6, ⟨HO.out.of_cast HN.out.symm⟩⟩
              case measure => simp [intOf]; omega
            | false =>
              have hcl := cnt_lt (bitAt l) k m hlt HQ.out.symm
              rw [← HCN.out] at hcl
              have hMl : 0 < M.length := by rw [HM.out, List.length_drop]; omega
              cases M with
              | nil => simp at hMl
              | cons x M =>
                have hgx : G1.getD (cntF (bitAt l) k) z39 = x := by
                  have h := HM.out
                  rw [List.drop_eq_getElem_cons (by omega)] at h
                  injection h with h1 h2
                  rw [h1, List.getD_eq_getElem?_getD, List.getElem?_eq_getElem (by omega)]
                  rfl
                have HMN : Aside0 (M = G1.drop (cntF (bitAt l) (k + 1))) := ⟨by
                  have h := HM.out
                  rw [List.drop_eq_getElem_cons (by omega)] at h
                  injection h with h1 h2
                  rw [h2, HS.out]; rfl⟩
                have HOV := Aside0.mk (outK_val (bitAt l) m G1 k hlt HQ.out.symm x hgx)
                have HOL := Aside0.mk (outK_length (bitAt l) m G1 k)
                clear hgx
                obtain ⟨a0, e6, x0, x1, x2⟩ := Own.val_in (Kd.C_below HC6.out HO.out.b)
                subst e6
                have hM1 : 0 < (x :: M).length := hMl
                obtain ⟨A7, kc1, kc2⟩ := cut_one39 a0 (x :: M).length c6 hMl hc6
                have HK2 := Aside0.mk (kc2 w3 x M HC6.out)
                have hlm : (x :: M).length = M.length + 1 := rfl
                rw [hlm] at hMl hM1 hc6 kc1 HK2 ⊢
                rw [Nat.add_sub_cancel] at kc1 HK2
                clear kc2 hlm hcl
                obtain ⟨g8, c8, e8, _, _, cells, hcs⟩ := Kd.R_form HO.out.r (by rw [outK_length]; omega)
                injection e8 with e81 e82 e83
                subst e81
                clear e82 e83
                obtain ⟨ad5, e7, y0, y1, y2⟩ := at_T39 (Kd.R_reads' HO.out.r).2.2 (k : Int) (by omega) (by rw [outK_length]; omega)
                cases e7
                rw [Int.toNat_natCast] at y0 y1 y2
                simp only [add_plain] at y0 y1 y2
                have z0 := blk_frozen hcs (k * 3)
                have z1 := blk_frozen hcs (k * 3 + 1)
                have z2 := blk_frozen hcs (k * 3 + 2)
                have hM2 : (0 : Int) < ((M.length + 1 : Nat) : Int) := by omega
                have hM3 : (0 : Int) < (M.length : Int) + 1 := by omega
                clear hcs
                go_wp2_with fail
                refine start_ (n := 10) (S := fun W' => W'.cell? a0 = some (.int .u8 x.f0) ∧ W'.cell? ⟨a0.block, a0.off + 1, none⟩ = some (.int .i64 x.f1) ∧ W'.cell? ⟨a0.block, a0.off + 2, none⟩ = some (.string x.f2)) (ds := [8]) #[false, false, false, false, false, false, false, false, false, false] (by kernel_rfl) rfl rfl (⟨x0, x1, x2⟩) (fun hHeld => ?_)
                refine with_tabW GC58.tab22 GC58.bits22 (fun HT_ HW_ => ?_)
                refine pure_ (i := 0) (N := some 79) (v := ?_) (a' := ?_) #[true, false, false, false, false, false, false, false, false, false] rfl rfl (any_of HT_.out (by kernel_rfl)) (fun _ _ _ h => h) (Or.inl ⟨by rfl, ?_⟩) ?_ ?_
                rotate_left
                · intro w'
                  go_simp
                  with_reducible rfl
                rotate_left
                · simp only [Act.put, List.setIfInBounds_toArray, List.set_cons_zero, List.set_cons_succ, i64_w, i32_w]
                  rfl
                refine pure_ (i := 1) (N := some 80) (v := ?_) (a' := ?_) #[true, true, false, false, false, false, false, false, false, false] rfl rfl (any_of HT_.out (by kernel_rfl)) (fun _ _ _ h => h) (Or.inl ⟨by rfl, ?_⟩) ?_ ?_
                rotate_left
                · intro w'
                  go_simp
                  with_reducible rfl
                rotate_left
                · simp only [Act.put, List.setIfInBounds_toArray, List.set_cons_zero, List.set_cons_succ, i64_w, i32_w]
                  rfl
                refine pure_ (i := 2) (N := some 81) (v := ?_) (a' := ?_) #[true, true, true, false, false, false, false, false, false, false] rfl rfl (any_of HT_.out (by kernel_rfl)) (fun _ _ _ h => h) (Or.inl ⟨by rfl, ?_⟩) ?_ ?_
                rotate_left
                · intro w'
                  go_simp
                  with_reducible rfl
                rotate_left
                · simp only [Act.put, List.setIfInBounds_toArray, List.set_cons_zero, List.set_cons_succ, i64_w, i32_w]
                  rfl
                refine pure_ (i := 3) (N := some 82) (v := ?_) (a' := ?_) #[true, true, true, true, false, false, false, false, false, false] rfl rfl (any_of HT_.out (by kernel_rfl)) (fun _ _ _ h => h) (Or.inl ⟨by rfl, ?_⟩) ?_ ?_
                rotate_left
                · intro w'
                  go_simp
                  with_reducible rfl
                rotate_left
                · simp only [Act.put, List.setIfInBounds_toArray, List.set_cons_zero, List.set_cons_succ, i64_w, i32_w]
                  rfl
                refine take_ (i := 4) (N := some 83) (v := ?_) (a' := ?_) #[true, true, true, true, true, false, false, false, false, false] rfl rfl (take_ofW HT_.out HW_.out (by kernel_rfl)) (fun _ _ _ h => h) (Or.inl ⟨by rfl, ?_⟩) hHeld ?_ ?_
                rotate_left
                · intro w' s0
                  (try dsimp only at s0)
                  (try go_split_ands)
                  go_simp
                  with_reducible rfl
                rotate_left
                · simp only [Act.put, List.setIfInBounds_toArray, List.set_cons_zero, List.set_cons_succ, i64_w, i32_w]
                  rfl
                refine pure_ (i := 5) (N := some 84) (v := ?_) (a' := ?_) #[true, true, true, true, true, true, false, false, false, false] rfl rfl (any_of HT_.out (by kernel_rfl)) (fun _ _ _ h => h) (Or.inl ⟨by rfl, ?_⟩) ?_ ?_
                rotate_left
                · intro w'
                  go_simp
                  with_reducible rfl
                rotate_left
                · simp only [Act.put, List.setIfInBounds_toArray, List.set_cons_zero, List.set_cons_succ, i64_w, i32_w]
                  rfl
                refine pure_ (i := 6) (N := some 85) (v := ?_) (a' := ?_) #[true, true, true, true, true, true, true, false, false, false] rfl rfl (any_of HT_.out (by kernel_rfl)) (fun _ _ _ h => h) (Or.inl ⟨by rfl, ?_⟩) ?_ ?_
                rotate_left
                · intro w'
                  go_simp
                  with_reducible rfl
                rotate_left
                · simp only [Act.put, List.setIfInBounds_toArray, List.set_cons_zero, List.set_cons_succ, i64_w, i32_w]
                  rfl
                refine pure_ (i := 7) (N := some 86) (v := ?_) (a' := ?_) #[true, true, true, true, true, true, true, true, false, false] rfl rfl (any_of HT_.out (by kernel_rfl)) (fun _ _ _ h => h) (Or.inl ⟨by rfl, ?_⟩) ?_ ?_
                rotate_left
                · intro w'
                  go_simp
                  with_reducible rfl
                rotate_left
                · simp only [Act.put, List.setIfInBounds_toArray, List.set_cons_zero, List.set_cons_succ, i64_w, i32_w]
                  rfl
                refine last_ (i := 8) (N := none) #[true, true, true, true, true, true, true, true, true, false] rfl rfl (one_of HT_.out (by kernel_rfl)) (by decide) (fun K hK => ?_)
                refine skip_ (w1 := ?_) (by rfl) rfl ?_ ?_
                rotate_left
                · go_simp
                  rfl
                refine hK.out _ _ ?_
                clear hK K
                refine pure_ (i := 9) (N := some 16) (v := ?_) (a' := ?_) #[true, true, true, true, true, true, true, true, true, true] rfl rfl (any_of HT_.out (by kernel_rfl)) (fun _ _ _ h => h) (Or.inl ⟨by rfl, ?_⟩) ?_ ?_
                rotate_left
                · intro w'
                  go_simp
                  with_reducible rfl
                rotate_left
                · simp only [Act.put, List.setIfInBounds_toArray, List.set_cons_zero, List.set_cons_succ, i64_w, i32_w]
                  rfl
                refine done_ (done_of HT_.out (by kernel_rfl)) ?_
                go_wp2_with fail
                have HO7 := Aside0.mk ((Own.putV HO.out k (by rw [HOL.out]; exact hlt) x).drew)
                go_roundw
                case rel => exact ⟨k + 1, A7, c6 - 1, M, by omega, by go_num, rfl, by omega, HMN, HK2, ⟨HO7.out.of_cast HOV.out⟩⟩
                case measure => simp [intOf]; omega
          · obtain rfl : m = k := by omega
            go_wp2
            go_ret2
            have HO8 := HO.out.of_cast (outK_all (bitAt l) m G1)
            rw [HRE2.out]
            exact ⟨_, rfl, Kd.R_lower HO8.r (Nat.le_trans HBW.out.size (by have := HB3.out.size; exact this)), below_then HBW.out HBW.out.size (below_then HB3.out HB3.out.size HO8.b)⟩
      · have HRE2 := Aside0.mk (show r = ([], G2) by rw [HRE.out, if_pos he])
        have q0 : (G2 == 0) = false := beq_eq_false_iff_ne.mpr he
        have q1 : (G2 != 0) = true := by simp [bne, q0]
        clear he
        go_wp2_with (go_at_call 138; refine MG.out.mono ?_; rintro e w3 ⟨v3, rfl, hr3, hb3⟩; have HB3 := Aside0.mk (below_then HB2.out HB2.out.size hb3); clear hr3 hb3)
        go_ret2
        exact FIN.out _ _ HB3.out HRE2.out
set_option maxRecDepth 100000 in
set_option maxHeartbeats 3200000 in
theorem column_Get_bad (kind : Int) (A : Option Addr) (n c : Nat) (m : Int) (w : World) (h : ¬ (kindB kind = true ∧ 0 ≤ m ∧ m ≤ 65536)) :
    Calls Try.prog 58 #[.int .u8 kind, .slice A n c, .int .i64 m] w (GetVPost w ([], 1)) := by
  have hmm := cway_look kind (w.alloc (.map cwaysMap 3)) (b := w.heap.size) (heap_alloc_new w _)
  have hsp := fun (w : World) (a : Addr) (m : Mode) => run_store Try.prog w a (wayP kind) m (wayP_one kind)
  have hsg := fun (w : World) (a : Addr) (m : Mode) => run_store Try.prog w a (wayG kind) m (wayG_one kind)
  have HB := Aside0.mk (show Below w.heap.size w ((w.alloc (.map cwaysMap 3)).alloc (.cells #[wayP kind, wayG kind] 113)) from ((Below.refl _ _).alloc (Nat.le_refl _) _).alloc (by simp) _)
  cases hk : kindB kind with
  | false =>
    rw [hk] at hmm
    clear hk h
    go_enter Try.func58, Try.ntmps58
    go_wp2_with (go_at_call 89; refine (cways_any _).mono ?_; rintro e w' ⟨rfl, rfl⟩)
    go_ret2
    exact getV_nil _ _ _ HB.out
  | true =>
    rw [hk] at hmm h
    by_cases h0 : m < 0
    · clear h hk
      go_enter Try.func58, Try.ntmps58
      go_wp2_with (go_at_call 89; refine (cways_any _).mono ?_; rintro e w' ⟨rfl, rfl⟩)
      go_ret2
      exact getV_nil _ _ _ HB.out
    · have h1 : 65536 < m := by
        apply Classical.byContradiction
        intro h1
        exact h ⟨rfl, by omega, by omega⟩
      have h2 : 0 ≤ m := by omega
      clear h hk h0
      go_enter Try.func58, Try.ntmps58
      go_wp2_with (go_at_call 89; refine (cways_any _).mono ?_; rintro e w' ⟨rfl, rfl⟩)
      go_ret2
      exact getV_nil _ _ _ HB.out
def column_Get.f (a0 : Int) (l : List Int) (n : Int) : Option (List S39 × Int) := if l.length ≤ 400000 ∧ l.all isByte = true then some (getColI a0 l n) else none
theorem column_Get.calls (a0 : Int) (A1 : Option Addr) (c1 : Nat) (l1 : List Int) (a2 : Int) (r1 : List S39) (r2 : Int) (w : World) (hr1 : Kd.C (Kd.int .u8) w A1 l1.length l1) (hc1 : l1.length ≤ c1) (h : column_Get.f a0 l1 a2 = some (r1, r2)) :
    Calls Try.prog 58 #[.int .u8 a0, .slice A1 l1.length c1, .int .i64 a2] w fun e w' => ∃ v0_ : Value, e = .returned (.tuple #[v0_, .int .i64 r2]) ∧ Kd.R k39 39 w' w.heap.size (fun _ => True) v0_ r1 ∧ Below w.heap.size w w' := by
  unfold column_Get.f at h
  split at h
  · rename_i hc
    injection h with h
    obtain ⟨hl, hb⟩ := hc
    rw [List.all_eq_true] at hb
    unfold getColI at h
    by_cases hg : kindB a0 = true ∧ 0 ≤ a2 ∧ a2 ≤ 65536
    · rw [if_pos hg] at h
      obtain ⟨hk, h0, h6⟩ := hg
      obtain ⟨m, rfl⟩ := Int.eq_ofNat_of_zero_le h0
      rw [Int.toNat_natCast] at h
      have hk3 : a0 = 1 ∨ a0 = 2 ∨ a0 = 3 := by unfold kindB at hk; simp only [Bool.and_eq_true, decide_eq_true_eq] at hk; omega
      rcases hk3 with rfl | rfl | rfl
      · have := column_Get_1 A1 c1 l1 m (by omega) hl w hr1 hc1 hb
        rw [h] at this
        exact this
      · have := column_Get_2 A1 c1 l1 m (by omega) hl w hr1 hc1 hb
        rw [h] at this
        exact this
      · have := column_Get_3 A1 c1 l1 m (by omega) hl w hr1 hc1 hb
        rw [h] at this
        exact this
    · rw [if_neg hg] at h
      injection h with h1 h2
      subst h1 h2
      exact column_Get_bad a0 A1 l1.length c1 a2 w hg
  · cases h
end Go.Proofs.Ytlmcefhpnfoahaa.P
end

section
namespace Go.Proofs.Ytlmcefhpnfoahaa.P
open Go.RowKit Go.Proofs.YtlmcefhpnfoahaaW.PrintWords Go.Proofs.YtlmcefhpnfoahaaW.PrintLast Go.Proofs.YtlmcefhpnfoahaaW.PrintMore
set_option linter.unusedVariables false
set_option linter.unusedSimpArgs false

def exC : List S39 := [⟨3, 0, ⟨#[97]⟩⟩, ⟨3, 0, ⟨#[98]⟩⟩, ⟨3, 0, ⟨#[97]⟩⟩, ⟨0, 0, ⟨#[]⟩⟩]
def exD : List S39 := [⟨2, 10, ⟨#[]⟩⟩, ⟨0, 0, ⟨#[]⟩⟩, ⟨2, 20, ⟨#[]⟩⟩]
theorem exCPut : column_Put.f 3 exC = some ([8, 2, 1, 97, 1, 98, 0, 1, 0], 0) := by decide +kernel
theorem exCGet : column_Get.f 2 [2, 1, 20, 1, 0] 3 = some (exD, 0) := by kernel_rfl
theorem exCStr : strOfNums [8, 2, 1, 97, 1, 98, 0, 1, 0] = ⟨#[8, 2, 1, 97, 1, 98, 0, 1, 0]⟩ := rfl
def tidelinelaw06_puts.f : Option Bool := some true
set_option maxRecDepth 100000 in
set_option maxHeartbeats 1600000 in
theorem tidelinelaw06_puts.calls (r : Bool) (w : World) (h : tidelinelaw06_puts.f = some r) :
    Calls Try.prog 57 #[] w fun e w' => e = .returned (.bool r) ∧ Below w.heap.size w w' := by
  obtain rfl : true = r := Option.some.inj h
  clear h
  obtain ⟨W1, hW1⟩ : ∃ W, W = ((w.alloc (.cells #[.int .u8 3, .int .i64 0, .string ⟨#[97]⟩] 39)).alloc (.cells #[.int .u8 3, .int .i64 0, .string ⟨#[98]⟩] 39)).alloc (.cells #[.int .u8 3, .int .i64 0, .string ⟨#[97]⟩, .int .u8 3, .int .i64 0, .string ⟨#[98]⟩, .int .u8 3, .int .i64 0, .string ⟨#[97]⟩, .int .u8 0, .int .i64 0, .string ⟨#[]⟩] 39) := ⟨_, rfl⟩
  have B1 : Aside0 (Below w.heap.size w W1) := ⟨by rw [hW1]; exact (((Below.refl _ _).alloc (Nat.le_refl _) _).alloc (by simp) _).alloc (by simp; omega) _⟩
  have L1 : Aside0 (Kd.C k39 W1 (some ⟨w.heap.size + 1 + 1, 0, none⟩) 4 exC) := ⟨by
    rw [hW1]
    have := lit_vals ((w.alloc (.cells #[.int .u8 3, .int .i64 0, .string ⟨#[97]⟩] 39)).alloc (.cells #[.int .u8 3, .int .i64 0, .string ⟨#[98]⟩] 39)) exC #[.int .u8 3, .int .i64 0, .string ⟨#[97]⟩, .int .u8 3, .int .i64 0, .string ⟨#[98]⟩, .int .u8 3, .int .i64 0, .string ⟨#[97]⟩, .int .u8 0, .int .i64 0, .string ⟨#[]⟩] rfl (by decide)
    rwa [World.size_alloc, World.size_alloc] at this⟩
  have P1 : Aside0 (Calls Try.prog 55 #[.int .u8 3, .slice (some ⟨w.heap.size + 1 + 1, 0, none⟩) 4 4] W1 fun e w' => ∃ v0_ : Value, e = .returned (.tuple #[v0_, .int .i64 0]) ∧ Own (Kd.int .u8) 5 w.heap.size w w' v0_ [8, 2, 1, 97, 1, 98, 0, 1, 0]) :=
    ⟨(column_Put.calls 3 _ 4 exC _ _ W1 L1.out (Nat.le_refl _) exCPut).mono fun e w' ⟨v, h1, h2, h3⟩ => ⟨v, h1, Own.made B1.out B1.out.size h2 h3⟩⟩
  have P2 : Aside0 (∀ (w3 : World) (v : Value), Own (Kd.int .u8) 5 w.heap.size w w3 v [8, 2, 1, 97, 1, 98, 0, 1, 0] → Calls Try.prog 58 #[.int .u8 2, .slice (some ⟨w3.heap.size, 0, none⟩) 5 5, .int .i64 3] (w3.alloc (.cells #[.int .u8 2, .int .u8 1, .int .u8 20, .int .u8 1, .int .u8 0] 5)) fun e w' => ∃ (g : Nat) (c : Nat), e = .returned (.tuple #[.slice (some ⟨g, 0, none⟩) 3 c, .int .i64 0]) ∧ Aside0 (Own (Kd.int .u8) 5 w.heap.size w w' v [8, 2, 1, 97, 1, 98, 0, 1, 0]) ∧ (Aside0 (Kd.C k39 w' (some ⟨g, 0, none⟩) 3 exD))) := ⟨fun w3 v hO =>
    (column_Get.calls 2 _ 5 [2, 1, 20, 1, 0] 3 _ _ _ (lit_bytes w3 [2, 1, 20, 1, 0] _ rfl (by decide)) (Nat.le_refl _) exCGet).mono fun e w' ⟨v1, h1, h2, h3⟩ => by
      obtain ⟨g, c, hv, _, _, _⟩ := Kd.R_form h2 (by decide)
      subst hv
      exact ⟨g, c, h1, ⟨(hO.alloc _).step h3⟩, ⟨(Kd.R_reads' h2).2.2⟩⟩⟩
  rw [hW1] at P1
  clear hW1
  go_enter Try.func57, Try.ntmps57
  go_wp2_with (first
    | (go_at_call 55; refine P1.out.mono ?_; rintro e w3 ⟨v3, rfl, ho3⟩; have HO3 := Aside0.mk ho3; clear ho3)
    | (go_at_call 58; refine (P2.out w3 v3 HO3.out).mono ?_; rintro e w4 ⟨g4, c4, rfl, HO4, HC4⟩
       obtain ⟨A5, n5, c5, e5, hn5, hc5, hC5⟩ := HO4.out.sl'
       subst e5
       obtain rfl : n5 = 9 := hn5.out
       have kst := HO4.out.str
       rw [exCStr] at kst
       obtain ⟨ad, e6, x00, x01, x02⟩ := at_T39 HC4.out 0 (by decide) (by decide)
       cases e6
       obtain ⟨ad, e6, x10, x11, x12⟩ := at_T39 HC4.out 1 (by decide) (by decide)
       cases e6
       obtain ⟨ad, e6, x20, x21, x22⟩ := at_T39 HC4.out 2 (by decide) (by decide)
       cases e6
       change w4.cell? ⟨g4, 1, none⟩ = some (.int .i64 10) at x01
       change w4.cell? ⟨g4, 3, none⟩ = some (.int .u8 0) at x10
       change w4.cell? ⟨g4, 4, none⟩ = some (.int .i64 0) at x11
       change w4.cell? ⟨g4, 5, none⟩ = some (.string ⟨#[]⟩) at x12
       change w4.cell? ⟨g4, 6, none⟩ = some (.int .u8 2) at x20
       change w4.cell? ⟨g4, 7, none⟩ = some (.int .i64 20) at x21
       change w4.cell? ⟨g4, 8, none⟩ = some (.string ⟨#[]⟩) at x22
       clear x00 x02))
  go_ret
  exact ⟨rfl, HO4.out.b⟩
end Go.Proofs.Ytlmcefhpnfoahaa.P
end

section
namespace Go.Proofs.Ytlmcefhpnfoahaa.P
open Go
def headNums : List Nat := [104, 97, 114, 110, 101, 115, 115, 32, 52, 99, 52, 100, 50, 98, 52, 55, 56, 54, 57, 48, 100, 97, 50, 98, 56, 98, 101, 57, 48, 50, 100, 101, 55, 57, 54, 57, 97, 53, 53, 97, 101, 49, 101, 50, 48, 97, 57, 101, 101, 49, 97, 54, 49, 51, 50, 100, 102, 101, 50, 51, 48, 50, 52, 57, 101, 101, 55, 57, 49, 50, 56, 97, 32, 99, 117, 116, 32, 97, 116, 32, 116, 105, 100, 101, 108, 105, 110, 101, 47, 116, 105, 100, 101, 108, 105, 110, 101, 108, 97, 119, 48, 51, 46, 75, 101, 121, 65, 112, 112, 101, 110, 100, 115, 32, 116, 105, 100, 101, 108, 105, 110, 101, 47, 116, 105, 100, 101, 108, 105, 110, 101, 108, 97, 119, 48, 51, 46, 75, 101, 121, 79, 114, 100, 101, 114, 115, 32, 116, 105, 100, 101, 108, 105, 110, 101, 47, 116, 105, 100, 101, 108, 105, 110, 101, 108, 97, 119, 48, 51, 46, 75, 101, 121, 66, 97, 99, 107, 32, 116, 105, 100, 101, 108, 105, 110, 101, 47, 116, 105, 100, 101, 108, 105, 110, 101, 108, 97, 119, 48, 51, 46, 75, 101, 121, 75, 110, 111, 119, 110, 32, 116, 105, 100, 101, 108, 105, 110, 101, 47, 116, 105, 100, 101, 108, 105, 110, 101, 108, 97, 119, 48, 51, 46, 75, 101, 121, 80, 97, 114, 115, 101, 115, 32, 116, 105, 100, 101, 108, 105, 110, 101, 47, 116, 105, 100, 101, 108, 105, 110, 101, 108, 97, 119, 48, 51, 46, 75, 101, 121, 80, 114, 101, 102, 105, 120, 32, 116, 105, 100, 101, 108, 105, 110, 101, 47, 116, 105, 100, 101, 108, 105, 110, 101, 108, 97, 119, 48, 55, 46, 83, 101, 103, 109, 101, 110, 116, 67, 117, 116, 115, 32, 116, 105, 100, 101, 108, 105, 110, 101, 47, 116, 105, 100, 101, 108, 105, 110, 101, 108, 97, 119, 48, 52, 46, 82, 111, 119, 80, 117, 116, 115, 32, 116, 105, 100, 101, 108, 105, 110, 101, 47, 116, 105, 100, 101, 108, 105, 110, 101, 108, 97, 119, 48, 52, 46, 82, 111, 119, 71, 101, 116, 115, 32, 116, 105, 100, 101, 108, 105, 110, 101, 47, 116, 105, 100, 101, 108, 105, 110, 101, 108, 97, 119, 48, 55, 46, 83, 101, 103, 109, 101, 110, 116, 75, 110, 111, 119, 110, 32, 116, 105, 100, 101, 108, 105, 110, 101, 47, 116, 105, 100, 101, 108, 105, 110, 101, 108, 97, 119, 48, 52, 46, 82, 111, 119, 66, 97, 99, 107, 32, 116, 105, 100, 101, 108, 105, 110, 101, 47, 116, 105, 100, 101, 108, 105, 110, 101, 108, 97, 119, 48, 52, 46, 82, 111, 119, 65, 112, 97, 114, 116, 32, 116, 105, 100, 101, 108, 105, 110, 101, 47, 116, 105, 100, 101, 108, 105, 110, 101, 108, 97, 119, 48, 52, 46, 82, 111, 119, 83, 105, 122, 101, 115, 32, 116, 105, 100, 101, 108, 105, 110, 101, 47, 116, 105, 100, 101, 108, 105, 110, 101, 108, 97, 119, 48, 52, 46, 82, 111, 119, 75, 110, 111, 119, 110, 32, 116, 105, 100, 101, 108, 105, 110, 101, 47, 116, 105, 100, 101, 108, 105, 110, 101, 108, 97, 119, 48, 54, 46, 67, 111, 108, 117, 109, 110, 80, 117, 116, 115, 32, 116, 105, 100, 101, 108, 105, 110, 101, 47, 116, 105, 100, 101, 108, 105, 110, 101, 108, 97, 119, 48, 54, 46, 67, 111, 108, 117, 109, 110, 71, 101, 116, 115, 32, 116, 105, 100, 101, 108, 105, 110, 101, 47, 116, 105, 100, 101, 108, 105, 110, 101, 108, 97, 119, 48, 54, 46, 67, 111, 108, 117, 109, 110, 66, 97, 99, 107, 32, 116, 105, 100, 101, 108, 105, 110, 101, 47, 116, 105, 100, 101, 108, 105, 110, 101, 108, 97, 119, 48, 54, 46, 67, 111, 108, 117, 109, 110, 65, 112, 97, 114, 116, 32, 116, 105, 100, 101, 108, 105, 110, 101, 47, 116, 105, 100, 101, 108, 105, 110, 101, 108, 97, 119, 48, 54, 46, 67, 111, 108, 117, 109, 110, 83, 109, 97, 108, 108, 32, 116, 105, 100, 101, 108, 105, 110, 101, 47, 116, 105, 100, 101, 108, 105, 110, 101, 108, 97, 119, 48, 54, 46, 67, 111, 108, 117, 109, 110, 66, 111, 117, 110, 100, 115, 32, 116, 105, 100, 101, 108, 105, 110, 101, 47, 116, 105, 100, 101, 108, 105, 110, 101, 108, 97, 119, 48, 54, 46, 67, 111, 108, 117, 109, 110, 76, 105, 101, 115, 32, 116, 105, 100, 101, 108, 105, 110, 101, 47, 116, 105, 100, 101, 108, 105, 110, 101, 108, 97, 119, 48, 54, 46, 67, 111, 108, 117, 109, 110, 75, 110, 111, 119, 110, 32, 116, 105, 100, 101, 108, 105, 110, 101, 47, 116, 105, 100, 101, 108, 105, 110, 101, 108, 97, 119, 48, 55, 46, 83, 101, 103, 109, 101, 110, 116, 77, 97, 107, 101, 115, 32, 116, 105, 100, 101, 108, 105, 110, 101, 47, 116, 105, 100, 101, 108, 105, 110, 101, 108, 97, 119, 48, 55, 46, 83, 101, 103, 109, 101, 110, 116, 79, 112, 101, 110, 115, 32, 116, 105, 100, 101, 108, 105, 110, 101, 47, 116, 105, 100, 101, 108, 105, 110, 101, 108, 97, 119, 48, 55, 46, 83, 101, 103, 109, 101, 110, 116, 66, 97, 99, 107, 32, 116, 105, 100, 101, 108, 105, 110, 101, 47, 116, 105, 100, 101, 108, 105, 110, 101, 108, 97, 119, 48, 55, 46, 83, 101, 103, 109, 101, 110, 116, 66, 111, 117, 110, 100, 115]
theorem head_text : Try.prog.initOrder = "harness 4c4d2b478690da2b8be902de7969a55ae1e20a9ee1a6132dfe230249ee79128a cut at tideline/tidelinelaw03.KeyAppends tideline/tidelinelaw03.KeyOrders tideline/tidelinelaw03.KeyBack tideline/tidelinelaw03.KeyKnown tideline/tidelinelaw03.KeyParses tideline/tidelinelaw03.KeyPrefix tideline/tidelinelaw07.SegmentCuts tideline/tidelinelaw04.RowPuts tideline/tidelinelaw04.RowGets tideline/tidelinelaw07.SegmentKnown tideline/tidelinelaw04.RowBack tideline/tidelinelaw04.RowApart tideline/tidelinelaw04.RowSizes tideline/tidelinelaw04.RowKnown tideline/tidelinelaw06.ColumnPuts tideline/tidelinelaw06.ColumnGets tideline/tidelinelaw06.ColumnBack tideline/tidelinelaw06.ColumnApart tideline/tidelinelaw06.ColumnSmall tideline/tidelinelaw06.ColumnBounds tideline/tidelinelaw06.ColumnLies tideline/tidelinelaw06.ColumnKnown tideline/tidelinelaw07.SegmentMakes tideline/tidelinelaw07.SegmentOpens tideline/tidelinelaw07.SegmentBack tideline/tidelinelaw07.SegmentBounds" := by kernel_rfl
set_option maxRecDepth 100000 in
theorem head_lit : "harness 4c4d2b478690da2b8be902de7969a55ae1e20a9ee1a6132dfe230249ee79128a cut at tideline/tidelinelaw03.KeyAppends tideline/tidelinelaw03.KeyOrders tideline/tidelinelaw03.KeyBack tideline/tidelinelaw03.KeyKnown tideline/tidelinelaw03.KeyParses tideline/tidelinelaw03.KeyPrefix tideline/tidelinelaw07.SegmentCuts tideline/tidelinelaw04.RowPuts tideline/tidelinelaw04.RowGets tideline/tidelinelaw07.SegmentKnown tideline/tidelinelaw04.RowBack tideline/tidelinelaw04.RowApart tideline/tidelinelaw04.RowSizes tideline/tidelinelaw04.RowKnown tideline/tidelinelaw06.ColumnPuts tideline/tidelinelaw06.ColumnGets tideline/tidelinelaw06.ColumnBack tideline/tidelinelaw06.ColumnApart tideline/tidelinelaw06.ColumnSmall tideline/tidelinelaw06.ColumnBounds tideline/tidelinelaw06.ColumnLies tideline/tidelinelaw06.ColumnKnown tideline/tidelinelaw07.SegmentMakes tideline/tidelinelaw07.SegmentOpens tideline/tidelinelaw07.SegmentBack tideline/tidelinelaw07.SegmentBounds" = String.ofList (headNums.map Char.ofNat) := by kernel_rfl
theorem head_list : Try.prog.initOrder.toList = headNums.map Char.ofNat := by rw [head_text, head_lit, String.toList_ofList]
set_option maxRecDepth 100000 in
theorem head_cut : (behindMainWord (wordsSigns (headNums.map Char.ofNat))).head? = some "cut".toList := by kernel_rfl
theorem head_words : ∃ rest, behindMainWord (wordsSigns Try.prog.initOrder.toList) = "cut".toList :: rest := by
  rw [head_list]
  have h := head_cut
  cases hw : behindMainWord (wordsSigns (headNums.map Char.ofNat)) with
  | nil => rw [hw] at h; cases h
  | cons a r => rw [hw] at h; injection h with h; exact ⟨r, by rw [h]⟩
theorem strip_cut (rest : List (List Char)) : stripLifts liftWords ("cut".toList :: rest) = ([], "cut".toList :: rest) := by kernel_rfl
theorem cut_carried : ("cut".toList == "carried".toList) = false := by kernel_rfl
theorem cut_gc : ("cut".toList == "gc".toList) = false := by kernel_rfl
theorem cut_spec : ("cut".toList == "spec".toList) = false := by kernel_rfl
theorem cut_cut : ("cut".toList == "cut".toList) = true := by kernel_rfl
theorem fact_stops : (Try.prog.stops == []) = true := by kernel_rfl
theorem fact_stopKnobs : (Try.prog.stopKnobs == []) = true := by kernel_rfl
theorem fact_mapsRowed : mapsRowed Try.prog = true := by kernel_rfl
theorem fact_plainKeys : Try.prog.plainKeys = true := by kernel_rfl
theorem fact_stopsHeard : Try.prog.stopsHeard = true := by kernel_rfl
theorem fact_laidOut : laidOutB Try.prog = true := by kernel_rfl
theorem fact_laysLater : Try.prog.laysLater = false := by kernel_rfl
theorem fact_door : Try.prog.doorFits [] = true := by kernel_rfl
/-- The functions without a body. -/
def bare : List String := ["main.main", "gosem.cut", "internal/bytealg.Compare", "(runtime.boundsError).Error", "(runtime.boundsError).RuntimeError", "(runtime.errorString).Error", "(runtime.errorString).RuntimeError", "(runtime.plainError).Error", "(runtime.plainError).RuntimeError", "(runtime.errorAddressString).Error", "(runtime.errorAddressString).RuntimeError", "(*runtime.TypeAssertionError).Error", "(*runtime.TypeAssertionError).RuntimeError", "(*runtime.PanicNilError).Error", "(*runtime.PanicNilError).RuntimeError", "(*internal/abi.Type).Align", "(internal/runtime/maps.unhashableTypeError).Error", "(internal/runtime/maps.unhashableTypeError).RuntimeError", "(tideline/api.Errno).Error", "(internal/abi.Kind).String"]
theorem bare_eq : (Try.prog.funcs.toList.filter (fun fn => fn.body.isNone)).map (fun fn => fn.name) = bare := by kernel_rfl
def reflName (s : String) : Bool := opensWith (nameBytes "reflect.") (nameBytes s) || opensWith (nameBytes "(reflect.") (nameBytes s) || opensWith (nameBytes "(*reflect.") (nameBytes s)
theorem bare0 : reflName "main.main" = false := by kernel_rfl
theorem bare1 : reflName "gosem.cut" = false := by kernel_rfl
theorem bare2 : reflName "internal/bytealg.Compare" = false := by kernel_rfl
theorem bare3 : reflName "(runtime.boundsError).Error" = false := by kernel_rfl
theorem bare4 : reflName "(runtime.boundsError).RuntimeError" = false := by kernel_rfl
theorem bare5 : reflName "(runtime.errorString).Error" = false := by kernel_rfl
theorem bare6 : reflName "(runtime.errorString).RuntimeError" = false := by kernel_rfl
theorem bare7 : reflName "(runtime.plainError).Error" = false := by kernel_rfl
theorem bare8 : reflName "(runtime.plainError).RuntimeError" = false := by kernel_rfl
theorem bare9 : reflName "(runtime.errorAddressString).Error" = false := by kernel_rfl
theorem bare10 : reflName "(runtime.errorAddressString).RuntimeError" = false := by kernel_rfl
theorem bare11 : reflName "(*runtime.TypeAssertionError).Error" = false := by kernel_rfl
theorem bare12 : reflName "(*runtime.TypeAssertionError).RuntimeError" = false := by kernel_rfl
theorem bare13 : reflName "(*runtime.PanicNilError).Error" = false := by kernel_rfl
theorem bare14 : reflName "(*runtime.PanicNilError).RuntimeError" = false := by kernel_rfl
theorem bare15 : reflName "(*internal/abi.Type).Align" = false := by kernel_rfl
theorem bare16 : reflName "(internal/runtime/maps.unhashableTypeError).Error" = false := by kernel_rfl
theorem bare17 : reflName "(internal/runtime/maps.unhashableTypeError).RuntimeError" = false := by kernel_rfl
theorem bare18 : reflName "(tideline/api.Errno).Error" = false := by kernel_rfl
theorem bare19 : reflName "(internal/abi.Kind).String" = false := by kernel_rfl
theorem bare_no : bare.any reflName = false := by
  unfold bare
  simp only [List.any_cons, List.any_nil, bare0, bare1, bare2, bare3, bare4, bare5, bare6, bare7, bare8, bare9, bare10, bare11, bare12, bare13, bare14, bare15, bare16, bare17, bare18, bare19, Bool.or_false]
theorem any_filter_map (l : List Func) (p : Func → Bool) (q : String → Bool) : (l.any fun fn => p fn && q fn.name) = ((l.filter p).map (fun fn => fn.name)).any q := by
  induction l with
  | nil => rfl
  | cons a r ih =>
    rw [List.any_cons, ih, List.filter_cons]
    cases p a <;> simp
theorem fact_reflect : Try.prog.bearsReflect = false := by
  show (Try.prog.funcs.toList.any fun fn => fn.body.isNone && reflName fn.name) = false
  rw [any_filter_map, bare_eq, bare_no]
theorem mayEnter_of (P : Program) (rest : List (List Char)) (h : behindMainWord (wordsSigns P.initOrder.toList) = "cut".toList :: rest) (h1 : P.laysLater = false) (h2 : P.bearsReflect = false) (h3 : P.doorFits [] = true) : P.mayEnter = true := by
  unfold Program.mayEnter
  rw [h]
  dsimp only
  rw [strip_cut, h1, h2, h3]
  simp only [List.head?_cons, Option.some_beq_some, cut_cut, Bool.not_false, Bool.or_true, Bool.and_true, List.contains_nil]
theorem headLifts_of (P : Program) (rest : List (List Char)) (h : behindMainWord (wordsSigns P.initOrder.toList) = "cut".toList :: rest) : P.headLifts = [] := by
  unfold Program.headLifts
  rw [h, strip_cut]
  simp only [List.head?_cons, Option.some_beq_some, cut_cut, if_true]
theorem liftsFinal_of (P : Program) (rest : List (List Char)) (h : behindMainWord (wordsSigns P.initOrder.toList) = "cut".toList :: rest) : P.liftsFinal = false := by
  unfold Program.liftsFinal
  rw [h, headLifts_of P rest h]
  simp only [List.head?_cons, Option.some_beq_some, cut_carried, Bool.false_and, List.contains_nil, Bool.or_false]
theorem make_of (P : Program) (rest : List (List Char)) (h : behindMainWord (wordsSigns P.initOrder.toList) = "cut".toList :: rest) : P.make = some .cut := by
  unfold Program.make
  rw [h]
  simp only [cut_gc, cut_spec, cut_cut, Bool.or_false, Bool.true_or, Bool.false_eq_true, if_false, if_true]
theorem joined_of (P : Program) (f : FuncId) (fn : Func) (s : ChangeSpec) (c : OpenClaim) (h0 : c.wf (OpenSpec.ofChange s) = true) (h1 : laidOutB P = true) (h2 : mapsRowed P = true) (h3 : fn.params.all (P.readableRec ·) = true) (h4 : namedTie P c.named s.vars = true) (h5 : (c.stops == []) = true) (h6 : (P.stops == []) = true) (h7 : (c.knobs == []) = true) (h8 : (P.stopKnobs == []) = true)
    (h9 : (c.inPlace == P.inPlace f) = true) (h10 : (c.unfollowed == P.unfollowed f) = true) (h11 : (c.recurses == P.recurses f) = true) (h12 : (c.named == P.varsNamed f) = true) (h13 : (c.maps == (fn.params.toList ++ s.plain.varTypes P).any (P.mapsRec ·)) = true) (h14 : (c.ifaces == (fn.params.toList ++ s.plain.varTypes P).any (P.ifacesRec ·)) = true) (h15 : (c.mapsOut == P.mapsAmong fn.resultTypes.toList) = true)
    (h16 : (c.loops == (fn.params.toList ++ s.plain.varTypes P).any (P.loopsFrom ·)) = true) (h17 : (c.wideKeys == (fn.params.toList ++ s.plain.varTypes P ++ fn.resultTypes.toList).any (P.wideKeysFrom ·)) = true) (h18 : s.vars.all (P.varReadable ·) = true) (h19 : fn.resultTypes.all (fun t => P.readableRec t && decide (t < P.types.size)) = true) (h20 : (c.ifacesOut == fn.resultTypes.toList.any (P.ifacesRec ·)) = true) (h21 : (c.loopsOut == fn.resultTypes.toList.any (P.loopsFrom ·)) = true)
    (h22 : (c.plainKeys == P.plainKeys) = (c.plainKeys == true)) (h23 : c.plainKeys = true) (h24 : c.shortTexts.isNone = true) (h25 : P.stopsHeard = true) (h26 : P.mayEnter = true) (h27 : (c.lifted == P.liftsFinal) = (c.lifted == false)) (h28 : c.lifted = false) (h29 : (P.make == some c.make) = true)
    (h30 : (c.kinds == (if c.domain.isEmpty then [] else fn.params.toList.map fun t => match P.underlying t with | some (.int k) => some k | _ => none)) = true) (h31 : (c.pinned == c.pinnedBy) = true) (h32 : (c.veiled == (fn.params.toList ++ s.plain.varTypes P ++ fn.resultTypes.toList).any (P.veiledRec ·)) = true) (h33 : c.veiledFits P fn.params.toList (fn.params.toList ++ s.plain.varTypes P ++ fn.resultTypes.toList) = true) : joinedFacts P f fn s c = true := by
  unfold joinedFacts
  rw [h0, h1, h2, h3, h4, h5, h6, h7, h8, h9, h10, h11, h12, h13, h14, h15, h16, h17, h18, h19, h20, h21, h22, h23, h24, h25, h26, h27, h28, h29, h31, h32, h33]
  simp only [Bool.true_and, Bool.and_true, beq_self_eq_true]
  exact h30
theorem fact_mayEnter : Try.prog.mayEnter = true := head_words.elim fun rest h => mayEnter_of Try.prog rest h fact_laysLater fact_reflect fact_door
theorem fact_liftsFinal : Try.prog.liftsFinal = false := head_words.elim fun rest h => liftsFinal_of Try.prog rest h
theorem fact_make : Try.prog.make = some .cut := head_words.elim fun rest h => make_of Try.prog rest h
end Go.Proofs.Ytlmcefhpnfoahaa.P
end

section
namespace Go.Proofs.Ytlmcefhpnfoahaa.P
open Go.RowKit Go.Proofs.YtlmcefhpnfoahaaW.PrintWords Go.Proofs.YtlmcefhpnfoahaaW.PrintLast Go.Proofs.YtlmcefhpnfoahaaW.PrintMore
attribute [local go_sem] max2_int min2_int max_two min_two max_three min_three max_four min_four   -- for this text's walks alone
set_option linter.unusedVariables false
set_option linter.unusedSimpArgs false

def tidelinelaw06_long.l0 : Nat → List (S39) → Int → Option (Bool)
  | 0, _, _ => none
  | k + 1, x0, x3 => if x3 < (x0.length : Int) then (if 0 ≤ x3 then (if (((rd_T39 x0 x3).f2).size : Int) > 300 then (some true) else (tidelinelaw06_long.l0 k x0 (wrap64 (x3 + 1)))) else (none)) else (some false)
def tidelinelaw06_long.f (k : Nat) (l0 : List (S39)) : Option (Bool) := if (l0.length : Int) > 500 then (some true) else (tidelinelaw06_long.l0 k l0 0)
set_option maxHeartbeats 8000000 in
set_option maxRecDepth 100000 in
theorem tidelinelaw06_long.calls (k : Nat) (A0 : Option Addr) (c0 : Nat) (l0 : List (S39)) (r : Bool) (w : World) (hr0 : Kd.C k39 w A0 l0.length l0) (hc0 : l0.length ≤ c0) (h : tidelinelaw06_long.f k l0 = some r) :
    Calls Try.prog 54 #[.slice A0 l0.length c0] w fun e w' => e = .returned (.bool r) ∧ Drawn0 w w' := by
  have HR0 := Aside0.mk hr0
  have HC0 := Aside0.mk hc0
  clear hr0 hc0
  have H : (if (l0.length : Int) > 500 then (some true) else (tidelinelaw06_long.l0 k l0 0)) = some r := h
  clear h
  by_cases c2 : (l0.length : Int) > 500
  · rw [if_pos c2] at H
    have c2b0 : decide (500 < (l0.length : Int)) = true := decide_eq_true c2
    have c2b1 : decide (500 < l0.length) = true := decide_eq_true (by omega)
    clear c2
    obtain rfl := Option.some.inj H
    go_enter Try.func54, Try.ntmps54
    go_wp2
    go_ret
    exact ⟨by first | rfl | (simp; done) | (simp [*]; done), by repeat (first | exact Drawn0.refl _ | apply Drawn0.step)⟩
  · rw [if_neg c2] at H
    have c2b0 : decide (500 < (l0.length : Int)) = false := decide_eq_false c2
    have c2b1 : decide (500 < l0.length) = false := decide_eq_false (by omega)
    clear c2
    have H' := Aside0.mk H
    clear H
    go_enter Try.func54, Try.ntmps54
    go_wp2
    go_loopg [3] k (fun kq v3 w' => ∃ (x3_1 : Int), v3 = .int .i64 x3_1 ∧ Aside0 (tidelinelaw06_long.l0 kq l0 x3_1 = some r) ∧ Aside0 (kq ≤ k) ∧ Drawn0 w w')
    case atStart => exact ⟨(0), (by first | rfl | (simp; done) | (simp [*]; done)), H', ⟨Nat.le_refl _⟩, by repeat (first | exact Drawn0.refl _ | apply Drawn0.step)⟩
    case round =>
      clear H'
      try clear c2
      try clear c2b0
      try clear c2b1
      try clear p2
      obtain ⟨x3_1, rfl, HA, HK1, ⟨m1, rfl⟩⟩ := hrel
      cases gk with
      | zero => exact absurd HA.out (by simp [tidelinelaw06_long.l0])
      | succ k1 =>
        have H := HA.out
        clear HA
        simp only [tidelinelaw06_long.l0] at H
        by_cases c3 : x3_1 < (l0.length : Int)
        · rw [if_pos c3] at H
          have c3b0 : decide (x3_1 < (l0.length : Int)) = true := decide_eq_true c3
          clear c3
          by_cases c4 : 0 ≤ x3_1
          · rw [if_pos c4] at H
            have c4b0 : decide (0 ≤ x3_1) = true := decide_eq_true c4
            clear c4
            by_cases c5 : (((rd_T39 l0 x3_1).f2).size : Int) > 300
            · rw [if_pos c5] at H
              have c5b0 : decide (300 < (((rd_T39 l0 x3_1).f2).size : Int)) = true := decide_eq_true c5
              have c5b1 : decide (300 < ((rd_T39 l0 x3_1).f2).size) = true := decide_eq_true (by omega)
              clear c5
              obtain rfl := Option.some.inj H
              have p888 : 0 ≤ (x3_1 : Int) := of_decide_eq_true (by first | (with_reducible assumption) | assumption)
              have q888 : x3_1 < (l0.length : Int) := of_decide_eq_true (by first | (with_reducible assumption) | assumption)
              obtain ⟨ad888, e888, hx888_0, hx888_1, hx888_2⟩ := at_T39 HR0.out x3_1 p888 q888
              cases e888
              replace p888 := eq_true p888
              replace q888 := eq_true q888
              go_wp2
              go_ret
              exact ⟨by first | rfl | (simp; done) | (simp [*]; done), by repeat (first | exact Drawn0.refl _ | apply Drawn0.step)⟩
            · rw [if_neg c5] at H
              have c5b0 : decide (300 < (((rd_T39 l0 x3_1).f2).size : Int)) = false := decide_eq_false c5
              have c5b1 : decide (300 < ((rd_T39 l0 x3_1).f2).size) = false := decide_eq_false (by omega)
              clear c5
              have H' := Aside0.mk H
              clear H
              have p888 : 0 ≤ (x3_1 : Int) := of_decide_eq_true (by first | (with_reducible assumption) | assumption)
              have q888 : x3_1 < (l0.length : Int) := of_decide_eq_true (by first | (with_reducible assumption) | assumption)
              obtain ⟨ad888, e888, hx888_0, hx888_1, hx888_2⟩ := at_T39 HR0.out x3_1 p888 q888
              cases e888
              replace p888 := eq_true p888
              replace q888 := eq_true q888
              go_wp2
              go_roundg k1
              case measure => have := HK1.out; omega
              case rel => exact ⟨(wrap64 (x3_1 + 1)), (by first | rfl | (simp; done) | (simp [*]; done)), H', ⟨by have := HK1.out; omega⟩, by repeat (first | exact Drawn0.refl _ | apply Drawn0.step)⟩
          · rw [if_neg c4] at H
            exact absurd H (by simp)
        · rw [if_neg c3] at H
          have c3b0 : decide (x3_1 < (l0.length : Int)) = false := decide_eq_false c3
          clear c3
          obtain rfl := Option.some.inj H
          go_wp2
          go_ret
          exact ⟨by first | rfl | (simp; done) | (simp [*]; done), by repeat (first | exact Drawn0.refl _ | apply Drawn0.step)⟩

end Go.Proofs.Ytlmcefhpnfoahaa.P
end

section
namespace Go.Proofs.Ytlmcefhpnfoahaa.P
open Go.RowKit Go.Proofs.YtlmcefhpnfoahaaW.PrintWords Go.Proofs.YtlmcefhpnfoahaaW.PrintLast Go.Proofs.YtlmcefhpnfoahaaW.PrintMore
attribute [local go_sem] max2_int min2_int max_two min_two max_three min_three max_four min_four   -- for this text's walks alone
set_option linter.unusedVariables false
set_option linter.unusedSimpArgs false

mutual
def tidelineref06_Column.j0 : Nat → Int → List (S39) → Bool → Option (Bool)
  | 0, _, _, _ => none
  | k + 1, x0, x1, x16 => if x16 = true then (some false) else (tidelineref06_Column.l0 k x0 x1 0)
def tidelineref06_Column.l0 : Nat → Int → List (S39) → Int → Option (Bool)
  | 0, _, _, _ => none
  | k + 1, x0, x1, x5 => if x5 < (x1.length : Int) then (if 0 ≤ x5 then ((tidelineref03_May.f ((rd_T39 x1 x5).f0) ((rd_T39 x1 x5).f1) ((rd_T39 x1 x5).f2)).bind fun t890 => (if t890 = true then (if ((rd_T39 x1 x5).f0) = 0 then (tidelineref06_Column.l0 k x0 x1 (wrap64 (x5 + 1))) else (if ((rd_T39 x1 x5).f0) = x0 then (tidelineref06_Column.l0 k x0 x1 (wrap64 (x5 + 1))) else (some false))) else (some false))) else (none)) else (some true)
end
def tidelineref06_Column.f (k : Nat) (a0 : Int) (l1 : List (S39)) : Option (Bool) := if a0 < 1 then (tidelineref06_Column.j0 k a0 l1 true) else (if a0 > 3 then (tidelineref06_Column.j0 k a0 l1 true) else (tidelineref06_Column.j0 k a0 l1 (decide ((l1.length : Int) > 65536))))
set_option maxHeartbeats 8000000 in
set_option maxRecDepth 100000 in
theorem tidelineref06_Column.calls (k : Nat) (a0 : Int) (A1 : Option Addr) (c1 : Nat) (l1 : List (S39)) (r : Bool) (w : World) (hr1 : Kd.C k39 w A1 l1.length l1) (hc1 : l1.length ≤ c1) (h : tidelineref06_Column.f k a0 l1 = some r) :
    Calls Try.prog 60 #[.int .u8 a0, .slice A1 l1.length c1] w fun e w' => e = .returned (.bool r) ∧ Below w.heap.size w w' := by
  have hu39 := Try.underlying39
  have HR1 := Aside0.mk hr1
  have HC1 := Aside0.mk hc1
  clear hr1 hc1
  have HB := Aside0.mk (Below.refl w.heap.size w)
  have H : (if a0 < 1 then (tidelineref06_Column.j0 k a0 l1 true) else (if a0 > 3 then (tidelineref06_Column.j0 k a0 l1 true) else (tidelineref06_Column.j0 k a0 l1 (decide ((l1.length : Int) > 65536))))) = some r := h
  clear h
  have HC3 := Aside0.mk H
  clear H
  go_enter Try.func60, Try.ntmps60
  go_upto_region 1 with (fail)
  go_cut [16] (fun v16 wc => ∃ (kq : Nat) (x16_2 : Bool), v16 = .bool x16_2 ∧ Aside0 (tidelineref06_Column.j0 kq a0 l1 x16_2 = some r) ∧ Aside0 (kq ≤ k) ∧ Aside0 (Below w.heap.size w wc))
  case first =>
    have H := HC3.out
    clear HC3
    by_cases c4 : a0 < 1
    · rw [if_pos c4] at H
      have c4b0 : decide (a0 < 1) = true := decide_eq_true c4
      clear c4
      (first | rw [c4b0] | (simp only [i64_w, i32_w]; rw [c4b0]) | skip)
      have H' := Aside0.mk H
      clear H
      go_wp2
      go_meet
      case rel => exact ⟨_, (true), (by first | rfl | (simp; done) | (simp [*]; done)), H', ⟨by first | omega | exact Nat.le_refl _⟩, ⟨by repeat (first | (with_reducible first | exact HB.out | apply below_alloc | apply pw_below_drewN | apply below_drew1) | exact HB.out)⟩⟩
    · rw [if_neg c4] at H
      have c4b0 : decide (a0 < 1) = false := decide_eq_false c4
      clear c4
      (first | rw [c4b0] | (simp only [i64_w, i32_w]; rw [c4b0]) | skip)
      by_cases c5 : a0 > 3
      · rw [if_pos c5] at H
        have c5b0 : decide (3 < a0) = true := decide_eq_true c5
        clear c5
        have H' := Aside0.mk H
        clear H
        go_wp2
        go_meet
        case rel => exact ⟨_, (true), (by first | rfl | (simp; done) | (simp [*]; done)), H', ⟨by first | omega | exact Nat.le_refl _⟩, ⟨by repeat (first | (with_reducible first | exact HB.out | apply below_alloc | apply pw_below_drewN | apply below_drew1) | exact HB.out)⟩⟩
      · rw [if_neg c5] at H
        have c5b0 : decide (3 < a0) = false := decide_eq_false c5
        clear c5
        have H' := Aside0.mk H
        clear H
        go_wp2
        go_meet
        case rel => exact ⟨_, (decide ((l1.length : Int) > 65536)), (by first | rfl | (simp; done) | (simp [*]; done)), H', ⟨by first | omega | exact Nat.le_refl _⟩, ⟨by repeat (first | (with_reducible first | exact HB.out | apply below_alloc | apply pw_below_drewN | apply below_drew1) | exact HB.out)⟩⟩
  case rest =>
    clear HC3
    try clear c1
    try clear p2
    try clear c4
    try clear c4b0
    try clear c5
    try clear c5b0
    obtain ⟨kq, x16_2, rfl, HA, HJ2, HB⟩ := hcut
    cases kq with
    | zero => exact absurd HA.out (by simp [tidelineref06_Column.j0])
    | succ kj2 =>
      have H := HA.out
      clear HA
      simp only [tidelineref06_Column.j0] at H
      by_cases c6 : x16_2 = true
      · subst c6
        have H1 : (some false) = some r := by rw [if_pos rfl] at H; exact H
        clear H
        have H := H1
        clear H1
        obtain rfl := Option.some.inj H
        go_wp2
        go_ret
        exact ⟨by first | rfl | (simp [errW_none, errW_some] <;> rfl) | (simp [*, errW_none, errW_some] <;> rfl), by repeat (first | (with_reducible first | exact HB.out | apply below_alloc | apply pw_below_drewN | apply below_drew1) | exact HB.out)⟩
      · replace c6 := Bool.eq_false_iff.mpr c6
        subst c6
        have H1 : (tidelineref06_Column.l0 kj2 a0 l1 0) = some r := by rw [if_neg (show ¬ (false = true) by decide)] at H; exact H
        clear H
        have H := H1
        clear H1
        have H' := Aside0.mk H
        clear H
        go_wp2
        go_loopg [5] kj2 (fun kq v5 w' => ∃ (x5_2 : Int), v5 = .int .i64 x5_2 ∧ Aside0 (tidelineref06_Column.l0 kq a0 l1 x5_2 = some r) ∧ Aside0 (kq ≤ kj2) ∧ Aside0 (Below w.heap.size w w'))
        case atStart => exact ⟨(0), (by first | rfl | (simp; done) | (simp [*]; done)), H', ⟨Nat.le_refl _⟩, ⟨by repeat (first | (with_reducible first | exact HB.out | apply below_alloc | apply pw_below_drewN | apply below_drew1) | exact HB.out)⟩⟩
        case round =>
          clear H'
          try clear c1
          try clear p2
          try clear c4
          try clear c4b0
          try clear c5
          try clear c5b0
          try clear c6
          try clear p2
          obtain ⟨x5_2, rfl, HA, HK2, HB⟩ := hrel
          cases gk with
          | zero => exact absurd HA.out (by simp [tidelineref06_Column.l0])
          | succ k2 =>
            have H := HA.out
            clear HA
            simp only [tidelineref06_Column.l0] at H
            by_cases c7 : x5_2 < (l1.length : Int)
            · rw [if_pos c7] at H
              have c7b0 : decide (x5_2 < (l1.length : Int)) = true := decide_eq_true c7
              clear c7
              by_cases c8 : 0 ≤ x5_2
              · rw [if_pos c8] at H
                have c8b0 : decide (0 ≤ x5_2) = true := decide_eq_true c8
                clear c8
                replace H := Option.bind_eq_some_iff.mp H
                obtain ⟨t890, A90, H⟩ := H
                replace H : (if t890 = true then (if ((rd_T39 l1 x5_2).f0) = 0 then (tidelineref06_Column.l0 k2 a0 l1 (wrap64 (x5_2 + 1))) else (if ((rd_T39 l1 x5_2).f0) = a0 then (tidelineref06_Column.l0 k2 a0 l1 (wrap64 (x5_2 + 1))) else (some false))) else (some false)) = some r := H
                have A9 := Aside0.mk A90
                clear A90
                by_cases c10 : t890 = true
                · subst c10
                  have H1 : (if ((rd_T39 l1 x5_2).f0) = 0 then (tidelineref06_Column.l0 k2 a0 l1 (wrap64 (x5_2 + 1))) else (if ((rd_T39 l1 x5_2).f0) = a0 then (tidelineref06_Column.l0 k2 a0 l1 (wrap64 (x5_2 + 1))) else (some false))) = some r := by rw [if_pos rfl] at H; exact H
                  clear H
                  have H := H1
                  clear H1
                  by_cases c11 : ((rd_T39 l1 x5_2).f0) = 0
                  · rw [if_pos c11] at H
                    have c11b0 : (((rd_T39 l1 x5_2).f0) == 0) = true := beq_iff_eq.mpr c11
                    have c11b1 : (((rd_T39 l1 x5_2).f0) != 0) = false := bne_eq_false_iff_eq.mpr c11
                    clear c11
                    have H' := Aside0.mk H
                    clear H
                    have p889 : 0 ≤ (x5_2 : Int) := of_decide_eq_true (by first | (with_reducible assumption) | assumption)
                    have q889 : x5_2 < (l1.length : Int) := of_decide_eq_true (by first | (with_reducible assumption) | assumption)
                    obtain ⟨ad889, e889, hx889_0, hx889_1, hx889_2⟩ := at_T39 HR1.out x5_2 p889 q889
                    cases e889
                    replace hx889_0 := (HB.out.cell (World.block_lt_of_cell? w _ hx889_0)).trans hx889_0
                    replace hx889_1 := (HB.out.cell (World.block_lt_of_cell? w _ hx889_1)).trans hx889_1
                    replace hx889_2 := (HB.out.cell (World.block_lt_of_cell? w _ hx889_2)).trans hx889_2
                    replace p889 := eq_true p889
                    replace q889 := eq_true q889
                    go_wp2_with (first | ((with_reducible refine gate_callee (f := 61) rfl ?_); refine goesL_ (some 27) rfl rfl Try.func61 (by kernel_rfl) rfl #[.agg #[.int .u8 ((rd_T39 l1 x5_2).f0), .int .i64 ((rd_T39 l1 x5_2).f1), .string ((rd_T39 l1 x5_2).f2)]] rfl (by (try simp only [List.map_toArray, List.map_cons, List.map_nil]); first | done | rfl | (simp only [List.length_drop, List.length_take]; rfl)) ?_; (with_reducible refine (tidelineref03_May.calls ((rd_T39 l1 x5_2).f0) ((rd_T39 l1 x5_2).f1) ((rd_T39 l1 x5_2).f2) true _ A9.out).mono ?_); rintro e w12 ⟨rfl, hb⟩; refine ⟨_, rfl, ?_⟩; have n0_ := Aside0.mk (below_step (by repeat (first | (with_reducible first | exact HB.out | apply below_alloc | apply pw_below_drewN | apply below_drew1) | exact HB.out)) hb); clear HB; have HB := n0_; clear n0_; (try clear hb); (try clear hb2); (try clear hk); (try clear hi); have p891 : 0 ≤ (x5_2 : Int) := of_decide_eq_true (by first | (with_reducible assumption) | assumption); have q891 : x5_2 < (l1.length : Int) := of_decide_eq_true (by first | (with_reducible assumption) | assumption); obtain ⟨ad891, e891, hx891_0, hx891_1, hx891_2⟩ := at_T39 HR1.out x5_2 p891 q891; obtain rfl : ad889 = ad891 := (by injection e891); replace hx891_0 := (HB.out.cell (World.block_lt_of_cell? w _ hx891_0)).trans hx891_0; replace hx891_1 := (HB.out.cell (World.block_lt_of_cell? w _ hx891_1)).trans hx891_1; replace hx891_2 := (HB.out.cell (World.block_lt_of_cell? w _ hx891_2)).trans hx891_2; replace p891 := eq_true p891; replace q891 := eq_true q891))
                    go_roundg k2
                    case measure => have := HJ2.out; have := HK2.out; omega
                    case rel => exact ⟨(wrap64 (x5_2 + 1)), (by first | rfl | (simp; done) | (simp [*]; done)), H', ⟨by have := HJ2.out; have := HK2.out; omega⟩, ⟨by repeat (first | (with_reducible first | exact HB.out | apply below_alloc | apply pw_below_drewN | apply below_drew1) | exact HB.out)⟩⟩
                  · rw [if_neg c11] at H
                    have c11b0 : (((rd_T39 l1 x5_2).f0) == 0) = false := beq_eq_false_iff_ne.mpr c11
                    have c11b1 : (((rd_T39 l1 x5_2).f0) != 0) = true := bne_iff_ne.mpr c11
                    by_cases c13 : ((rd_T39 l1 x5_2).f0) = a0
                    · rw [if_pos c13] at H
                      have c13b0 : (((rd_T39 l1 x5_2).f0) == a0) = true := beq_iff_eq.mpr c13
                      have c13b1 : (((rd_T39 l1 x5_2).f0) != a0) = false := bne_eq_false_iff_eq.mpr c13
                      clear c13
                      have H' := Aside0.mk H
                      clear H
                      have p889 : 0 ≤ (x5_2 : Int) := of_decide_eq_true (by first | (with_reducible assumption) | assumption)
                      have q889 : x5_2 < (l1.length : Int) := of_decide_eq_true (by first | (with_reducible assumption) | assumption)
                      obtain ⟨ad889, e889, hx889_0, hx889_1, hx889_2⟩ := at_T39 HR1.out x5_2 p889 q889
                      cases e889
                      replace hx889_0 := (HB.out.cell (World.block_lt_of_cell? w _ hx889_0)).trans hx889_0
                      replace hx889_1 := (HB.out.cell (World.block_lt_of_cell? w _ hx889_1)).trans hx889_1
                      replace hx889_2 := (HB.out.cell (World.block_lt_of_cell? w _ hx889_2)).trans hx889_2
                      replace p889 := eq_true p889
                      replace q889 := eq_true q889
                      go_wp2_with (first | ((with_reducible refine gate_callee (f := 61) rfl ?_); refine goesL_ (some 27) rfl rfl Try.func61 (by kernel_rfl) rfl #[.agg #[.int .u8 ((rd_T39 l1 x5_2).f0), .int .i64 ((rd_T39 l1 x5_2).f1), .string ((rd_T39 l1 x5_2).f2)]] rfl (by (try simp only [List.map_toArray, List.map_cons, List.map_nil]); first | done | rfl | (simp only [List.length_drop, List.length_take]; rfl)) ?_; (with_reducible refine (tidelineref03_May.calls ((rd_T39 l1 x5_2).f0) ((rd_T39 l1 x5_2).f1) ((rd_T39 l1 x5_2).f2) true _ A9.out).mono ?_); rintro e w14 ⟨rfl, hb⟩; refine ⟨_, rfl, ?_⟩; have n0_ := Aside0.mk (below_step (by repeat (first | (with_reducible first | exact HB.out | apply below_alloc | apply pw_below_drewN | apply below_drew1) | exact HB.out)) hb); clear HB; have HB := n0_; clear n0_; (try clear hb); (try clear hb2); (try clear hk); (try clear hi); have p891 : 0 ≤ (x5_2 : Int) := of_decide_eq_true (by first | (with_reducible assumption) | assumption); have q891 : x5_2 < (l1.length : Int) := of_decide_eq_true (by first | (with_reducible assumption) | assumption); obtain ⟨ad891, e891, hx891_0, hx891_1, hx891_2⟩ := at_T39 HR1.out x5_2 p891 q891; obtain rfl : ad889 = ad891 := (by injection e891); replace hx891_0 := (HB.out.cell (World.block_lt_of_cell? w _ hx891_0)).trans hx891_0; replace hx891_1 := (HB.out.cell (World.block_lt_of_cell? w _ hx891_1)).trans hx891_1; replace hx891_2 := (HB.out.cell (World.block_lt_of_cell? w _ hx891_2)).trans hx891_2; replace p891 := eq_true p891; replace q891 := eq_true q891; have p892 : 0 ≤ (x5_2 : Int) := of_decide_eq_true (by first | (with_reducible assumption) | assumption); have q892 : x5_2 < (l1.length : Int) := of_decide_eq_true (by first | (with_reducible assumption) | assumption); obtain ⟨ad892, e892, hx892_0, hx892_1, hx892_2⟩ := at_T39 HR1.out x5_2 p892 q892; obtain rfl : ad889 = ad892 := (by injection e892); replace hx892_0 := (HB.out.cell (World.block_lt_of_cell? w _ hx892_0)).trans hx892_0; replace hx892_1 := (HB.out.cell (World.block_lt_of_cell? w _ hx892_1)).trans hx892_1; replace hx892_2 := (HB.out.cell (World.block_lt_of_cell? w _ hx892_2)).trans hx892_2; replace p892 := eq_true p892; replace q892 := eq_true q892))
                      go_roundg k2
                      case measure => have := HJ2.out; have := HK2.out; omega
                      case rel => exact ⟨(wrap64 (x5_2 + 1)), (by first | rfl | (simp; done) | (simp [*]; done)), H', ⟨by have := HJ2.out; have := HK2.out; omega⟩, ⟨by repeat (first | (with_reducible first | exact HB.out | apply below_alloc | apply pw_below_drewN | apply below_drew1) | exact HB.out)⟩⟩
                    · rw [if_neg c13] at H
                      have c13b0 : (((rd_T39 l1 x5_2).f0) == a0) = false := beq_eq_false_iff_ne.mpr c13
                      have c13b1 : (((rd_T39 l1 x5_2).f0) != a0) = true := bne_iff_ne.mpr c13
                      obtain rfl := Option.some.inj H
                      have p889 : 0 ≤ (x5_2 : Int) := of_decide_eq_true (by first | (with_reducible assumption) | assumption)
                      have q889 : x5_2 < (l1.length : Int) := of_decide_eq_true (by first | (with_reducible assumption) | assumption)
                      obtain ⟨ad889, e889, hx889_0, hx889_1, hx889_2⟩ := at_T39 HR1.out x5_2 p889 q889
                      cases e889
                      replace hx889_0 := (HB.out.cell (World.block_lt_of_cell? w _ hx889_0)).trans hx889_0
                      replace hx889_1 := (HB.out.cell (World.block_lt_of_cell? w _ hx889_1)).trans hx889_1
                      replace hx889_2 := (HB.out.cell (World.block_lt_of_cell? w _ hx889_2)).trans hx889_2
                      replace p889 := eq_true p889
                      replace q889 := eq_true q889
                      go_wp2_with (first | ((with_reducible refine gate_callee (f := 61) rfl ?_); refine goesL_ (some 27) rfl rfl Try.func61 (by kernel_rfl) rfl #[.agg #[.int .u8 ((rd_T39 l1 x5_2).f0), .int .i64 ((rd_T39 l1 x5_2).f1), .string ((rd_T39 l1 x5_2).f2)]] rfl (by (try simp only [List.map_toArray, List.map_cons, List.map_nil]); first | done | rfl | (simp only [List.length_drop, List.length_take]; rfl)) ?_; (with_reducible refine (tidelineref03_May.calls ((rd_T39 l1 x5_2).f0) ((rd_T39 l1 x5_2).f1) ((rd_T39 l1 x5_2).f2) true _ A9.out).mono ?_); rintro e w15 ⟨rfl, hb⟩; refine ⟨_, rfl, ?_⟩; have n0_ := Aside0.mk (below_step (by repeat (first | (with_reducible first | exact HB.out | apply below_alloc | apply pw_below_drewN | apply below_drew1) | exact HB.out)) hb); clear HB; have HB := n0_; clear n0_; (try clear hb); (try clear hb2); (try clear hk); (try clear hi); have p891 : 0 ≤ (x5_2 : Int) := of_decide_eq_true (by first | (with_reducible assumption) | assumption); have q891 : x5_2 < (l1.length : Int) := of_decide_eq_true (by first | (with_reducible assumption) | assumption); obtain ⟨ad891, e891, hx891_0, hx891_1, hx891_2⟩ := at_T39 HR1.out x5_2 p891 q891; obtain rfl : ad889 = ad891 := (by injection e891); replace hx891_0 := (HB.out.cell (World.block_lt_of_cell? w _ hx891_0)).trans hx891_0; replace hx891_1 := (HB.out.cell (World.block_lt_of_cell? w _ hx891_1)).trans hx891_1; replace hx891_2 := (HB.out.cell (World.block_lt_of_cell? w _ hx891_2)).trans hx891_2; replace p891 := eq_true p891; replace q891 := eq_true q891; have p892 : 0 ≤ (x5_2 : Int) := of_decide_eq_true (by first | (with_reducible assumption) | assumption); have q892 : x5_2 < (l1.length : Int) := of_decide_eq_true (by first | (with_reducible assumption) | assumption); obtain ⟨ad892, e892, hx892_0, hx892_1, hx892_2⟩ := at_T39 HR1.out x5_2 p892 q892; obtain rfl : ad889 = ad892 := (by injection e892); replace hx892_0 := (HB.out.cell (World.block_lt_of_cell? w _ hx892_0)).trans hx892_0; replace hx892_1 := (HB.out.cell (World.block_lt_of_cell? w _ hx892_1)).trans hx892_1; replace hx892_2 := (HB.out.cell (World.block_lt_of_cell? w _ hx892_2)).trans hx892_2; replace p892 := eq_true p892; replace q892 := eq_true q892))
                      go_ret
                      exact ⟨by first | rfl | (simp [errW_none, errW_some] <;> rfl) | (simp [*, errW_none, errW_some] <;> rfl), by repeat (first | (with_reducible first | exact HB.out | apply below_alloc | apply pw_below_drewN | apply below_drew1) | exact HB.out)⟩
                · replace c10 := Bool.eq_false_iff.mpr c10
                  subst c10
                  have H1 : (some false) = some r := by rw [if_neg (show ¬ (false = true) by decide)] at H; exact H
                  clear H
                  have H := H1
                  clear H1
                  obtain rfl := Option.some.inj H
                  have p889 : 0 ≤ (x5_2 : Int) := of_decide_eq_true (by first | (with_reducible assumption) | assumption)
                  have q889 : x5_2 < (l1.length : Int) := of_decide_eq_true (by first | (with_reducible assumption) | assumption)
                  obtain ⟨ad889, e889, hx889_0, hx889_1, hx889_2⟩ := at_T39 HR1.out x5_2 p889 q889
                  cases e889
                  replace hx889_0 := (HB.out.cell (World.block_lt_of_cell? w _ hx889_0)).trans hx889_0
                  replace hx889_1 := (HB.out.cell (World.block_lt_of_cell? w _ hx889_1)).trans hx889_1
                  replace hx889_2 := (HB.out.cell (World.block_lt_of_cell? w _ hx889_2)).trans hx889_2
                  replace p889 := eq_true p889
                  replace q889 := eq_true q889
                  go_wp2_with (first | ((with_reducible refine gate_callee (f := 61) rfl ?_); refine goesL_ (some 27) rfl rfl Try.func61 (by kernel_rfl) rfl #[.agg #[.int .u8 ((rd_T39 l1 x5_2).f0), .int .i64 ((rd_T39 l1 x5_2).f1), .string ((rd_T39 l1 x5_2).f2)]] rfl (by (try simp only [List.map_toArray, List.map_cons, List.map_nil]); first | done | rfl | (simp only [List.length_drop, List.length_take]; rfl)) ?_; (with_reducible refine (tidelineref03_May.calls ((rd_T39 l1 x5_2).f0) ((rd_T39 l1 x5_2).f1) ((rd_T39 l1 x5_2).f2) false _ A9.out).mono ?_); rintro e w16 ⟨rfl, hb⟩; refine ⟨_, rfl, ?_⟩; have n0_ := Aside0.mk (below_step (by repeat (first | (with_reducible first | exact HB.out | apply below_alloc | apply pw_below_drewN | apply below_drew1) | exact HB.out)) hb); clear HB; have HB := n0_; clear n0_; (try clear hb); (try clear hb2); (try clear hk); (try clear hi)))
                  go_ret
                  exact ⟨by first | rfl | (simp [errW_none, errW_some] <;> rfl) | (simp [*, errW_none, errW_some] <;> rfl), by repeat (first | (with_reducible first | exact HB.out | apply below_alloc | apply pw_below_drewN | apply below_drew1) | exact HB.out)⟩
              · rw [if_neg c8] at H
                exact absurd H (by simp)
            · rw [if_neg c7] at H
              have c7b0 : decide (x5_2 < (l1.length : Int)) = false := decide_eq_false c7
              clear c7
              obtain rfl := Option.some.inj H
              go_wp2
              go_ret
              exact ⟨by first | rfl | (simp [errW_none, errW_some] <;> rfl) | (simp [*, errW_none, errW_some] <;> rfl), by repeat (first | (with_reducible first | exact HB.out | apply below_alloc | apply pw_below_drewN | apply below_drew1) | exact HB.out)⟩

end Go.Proofs.Ytlmcefhpnfoahaa.P
end

section
namespace Go.Proofs.Ytlmcefhpnfoahaa.P
open Go.RowKit Go.Proofs.YtlmcefhpnfoahaaW.PrintWords Go.Proofs.YtlmcefhpnfoahaaW.PrintLast Go.Proofs.YtlmcefhpnfoahaaW.PrintMore
set_option linter.unusedVariables false
set_option linter.unusedSimpArgs false

theorem wrap_i64 (n : Int) : i64 (wrap64 n) := by unfold i64 wrap64; omega
theorem chg_length : ∀ (l : List Int) (last step : Int), (chg last step l).length = l.length := by
  intro l
  induction l with
  | nil => intro _ _; rfl
  | cons v r ih => intro _ _; simp [chg, ih]
theorem sums_length : ∀ (l : List Int) (last step : Int), (sums last step l).length = l.length := by
  intro l
  induction l with
  | nil => intro _ _; rfl
  | cons v r ih => intro _ _; simp [sums, ih]
theorem chg_i64 : ∀ (l : List Int) (last step : Int), ∀ c ∈ chg last step l, i64 c := by
  intro l
  induction l with
  | nil => intro _ _ c hc; cases hc
  | cons v r ih =>
    intro last step c hc
    rcases List.mem_cons.mp hc with rfl | hc
    · exact wrap_i64 _
    · exact ih _ _ c hc
theorem sums_i64 : ∀ (l : List Int) (last step : Int), ∀ c ∈ sums last step l, i64 c := by
  intro l
  induction l with
  | nil => intro _ _ c hc; cases hc
  | cons v r ih =>
    intro last step c hc
    rcases List.mem_cons.mp hc with rfl | hc
    · exact wrap_i64 _
    · exact ih _ _ c hc
theorem sums_chg : ∀ (l : List Int) (last step : Int), (∀ v ∈ l, i64 v) → i64 last → i64 step → sums last step (chg last step l) = l := by
  intro l
  induction l with
  | nil => intro _ _ _ _ _; rfl
  | cons v r ih =>
    intro last step hl h1 h2
    have hv := hl v (by simp)
    unfold chg sums
    have e1 : wrap64 (step + wrap64 (wrap64 (v - last) - step)) = wrap64 (v - last) := by unfold i64 at *; unfold wrap64; omega
    have e2 : wrap64 (last + wrap64 (v - last)) = v := by unfold i64 at *; unfold wrap64; omega
    rw [e1, e2, ih v _ (fun x hx => hl x (by simp [hx])) hv (wrap_i64 _)]
theorem chg_sums : ∀ (l : List Int) (last step : Int), (∀ v ∈ l, i64 v) → i64 last → i64 step → chg last step (sums last step l) = l := by
  intro l
  induction l with
  | nil => intro _ _ _ _ _; rfl
  | cons c r ih =>
    intro last step hl h1 h2
    have hv := hl c (by simp)
    unfold sums chg
    have e1 : wrap64 (wrap64 (last + wrap64 (step + c)) - last) = wrap64 (step + c) := by unfold i64 at *; unfold wrap64; omega
    have e2 : wrap64 (wrap64 (step + c) - step) = c := by unfold i64 at *; unfold wrap64; omega
    rw [e1, e2, ih _ _ (fun x hx => hl x (by simp [hx])) (wrap_i64 _) (wrap_i64 _)]
theorem getRuns_zero (f : Nat) (prev : Option Int) (b : List Int) : getRuns f 0 prev b = if 0 < b.length then ([], 21) else ([], 0) := by
  cases f <;> (unfold getRuns; rw [if_pos rfl])
theorem getRuns_step (f need n : Nat) (prev : Option Int) (c : Int) (r : List Int) (hc : i64 c) (h0 : 0 < n) (h1 : n ≤ need) (hn : need ≤ 1000000) (hp : prev ≠ some c) :
    getRuns (f + 1) need prev (enc2 n c ++ r) = if (getRuns f (need - n) (some c) r).2 = 0 then (List.replicate n c ++ (getRuns f (need - n) (some c) r).1, 0) else ([], (getRuns f (need - n) (some c) r).2) := by
  obtain ⟨z0, z1⟩ := zig_range c hc.1 hc.2
  have e1 : vget (enc2 n c ++ r) = ((n : Int), ((vput 9 (n : Int)).length : Int), 0) := by unfold enc2; rw [List.append_assoc, vget_vput _ _ (by omega) (by omega)]
  have e2 : (enc2 n c ++ r).drop (vput 9 (n : Int)).length = vput 9 (zig c) ++ r := by unfold enc2; rw [List.append_assoc, List.drop_left]
  have e3 : vget (vput 9 (zig c) ++ r) = (zig c, ((vput 9 (zig c)).length : Int), 0) := vget_vput _ _ z0 z1
  have e4 : (enc2 n c ++ r).drop ((vput 9 (n : Int)).length + (vput 9 (zig c)).length) = r := by
    rw [← List.drop_drop, e2, List.drop_left]
  have hl : (enc2 n c ++ r).length ≠ 0 := by have := vput_pos 9 (n : Int); unfold enc2; simp only [List.length_append]; omega
  conv => lhs; unfold getRuns
  rw [e1]
  dsimp only
  rw [Int.toNat_natCast, e2, e3]
  dsimp only
  rw [zag_zig, Int.toNat_natCast, show (((vput 9 (n : Int)).length : Int) + ((vput 9 (zig c)).length : Int)).toNat = (vput 9 (n : Int)).length + (vput 9 (zig c)).length by omega, e4]
  rw [if_neg (by omega), if_neg hl, if_neg (by decide), if_neg (by omega), if_neg (by decide), if_neg hp]
theorem getRuns_runs (r : List Int) : ∀ (cs : List Int) (f n : Nat) (c : Int) (prev : Option Int), i64 c → (∀ d ∈ cs, i64 d) → 0 < n → n + cs.length ≤ 1000000 → n + cs.length ≤ f → prev ≠ some c →
    getRuns f (n + cs.length) prev (runsTo n c cs ++ r) = if r = [] then (List.replicate n c ++ cs, 0) else ([], 21) := by
  intro cs
  induction cs with
  | nil =>
    intro f n c prev hc _ h0 hn hf hp
    obtain ⟨f, rfl⟩ : ∃ g, f = g + 1 := ⟨f - 1, by omega⟩
    unfold runsTo
    simp only [List.length_nil, Nat.add_zero] at hn ⊢
    rw [if_pos h0, getRuns_step f n n prev c r hc h0 (Nat.le_refl n) hn hp, Nat.sub_self, getRuns_zero]
    by_cases hr : r = []
    · subst hr; simp
    · have h9 := List.length_pos_iff.mpr hr
      simp [hr, h9]
  | cons d cs ih =>
    intro f n c prev hc hd h0 hn hf hp
    have hdd := hd d (by simp)
    have hcs : ∀ x ∈ cs, i64 x := fun x hx => hd x (by simp [hx])
    simp only [List.length_cons] at hn hf ⊢
    unfold runsTo
    by_cases e : d = c
    · subst e
      rw [if_neg (by simp), show n + (cs.length + 1) = (n + 1) + cs.length by omega, ih f (n + 1) d prev hc hcs (by omega) (by omega) (by omega) hp]
      rw [List.replicate_succ', List.append_assoc]
      rfl
    · rw [if_pos ⟨h0, e⟩, List.append_assoc]
      obtain ⟨f, rfl⟩ : ∃ g, f = g + 1 := ⟨f - 1, by omega⟩
      rw [getRuns_step f (n + (cs.length + 1)) n prev c _ hc h0 (by omega) (by omega) hp, show n + (cs.length + 1) - n = 1 + cs.length by omega,
        ih f 1 d (some c) hdd hcs (by omega) (by omega) (by omega) (by intro h; injection h with h; exact e h.symm)]
      by_cases hr : r = []
      · rw [if_pos hr, if_pos hr, if_pos rfl]; rfl
      · rw [if_neg hr, if_neg hr, if_neg (by decide)]
theorem getInts_enc (l : List Int) (r : List Int) (hl : ∀ v ∈ l, i64 v) (hn : l.length ≤ 1000000) : getInts (encInts l ++ r) l.length = if r = [] then (l, 0) else ([], 21) := by
  have hs := sums_chg l 0 0 hl (by unfold i64; omega) (by unfold i64; omega)
  have hi := chg_i64 l 0 0
  have hL := chg_length l 0 0
  unfold getInts encInts
  rw [← hL]
  generalize chg 0 0 l = cs at *
  cases cs with
  | nil =>
    have e0 : runsTo 0 0 [] = [] := rfl
    rw [List.length_nil, getRuns_zero, e0, List.nil_append]
    by_cases hr : r = []
    · subst hr; simpa using hs
    · have h9 := List.length_pos_iff.mpr hr
      simp [hr, h9]
  | cons c cs =>
    have e : runsTo 0 0 (c :: cs) = runsTo 1 c cs := by
      conv => lhs; unfold runsTo
      rw [if_neg (by omega)]
    simp only [List.length_cons] at hL
    rw [e, List.length_cons, show cs.length + 1 = 1 + cs.length by omega, getRuns_runs r cs (1 + cs.length) 1 c none (hi c (by simp)) (fun d hd => hi d (by simp [hd])) (by omega) (by omega) (Nat.le_refl _) (by simp)]
    by_cases hr : r = []
    · rw [if_pos hr, if_pos hr, if_pos rfl]
      show (sums 0 0 (c :: cs), _) = _
      rw [hs]
    · rw [if_neg hr, if_neg hr, if_neg (by decide)]
theorem runs_rep (c : Int) (q : List Int) : ∀ (m n : Nat), 0 < n → runsTo n c (List.replicate m c ++ q) = runsTo (n + m) c q := by
  intro m
  induction m with
  | zero => intro n _; rfl
  | succ m ih =>
    intro n hn
    rw [List.replicate_succ, List.cons_append]
    conv => lhs; unfold runsTo
    rw [if_neg (by simp), ih (n + 1) (by omega)]
    congr 1; omega
theorem runs_apart (n : Nat) (c : Int) (q : List Int) (hn : 0 < n) (h : ∀ d r, q = d :: r → d ≠ c) : runsTo n c q = enc2 n c ++ runsTo 0 0 q := by
  cases q with
  | nil => unfold runsTo; rw [if_pos hn, if_neg (by omega), List.append_nil]
  | cons d r =>
    conv => lhs; unfold runsTo
    rw [if_pos ⟨hn, h d r rfl⟩]
    congr 1
theorem runs_getRuns : ∀ (f need : Nat) (prev : Option Int) (b : List Int), need ≤ f → (∀ x ∈ b, isByte x = true) → (getRuns f need prev b).2 = 0 →
    b = runsTo 0 0 (getRuns f need prev b).1 ∧ (getRuns f need prev b).1.length = need ∧ (∀ c ∈ (getRuns f need prev b).1, i64 c) ∧ (∀ d r, (getRuns f need prev b).1 = d :: r → prev ≠ some d) := by
  have base : ∀ (f : Nat) (prev : Option Int) (b : List Int), (getRuns f 0 prev b).2 = 0 → b = runsTo 0 0 (getRuns f 0 prev b).1 ∧ (getRuns f 0 prev b).1.length = 0 ∧ (∀ c ∈ (getRuns f 0 prev b).1, i64 c) ∧ (∀ d r, (getRuns f 0 prev b).1 = d :: r → prev ≠ some d) := by
    intro f prev b h
    rw [getRuns_zero] at h ⊢
    by_cases hb : 0 < b.length
    · rw [if_pos hb] at h; simp at h
    · rw [if_neg hb]
      obtain rfl : b = [] := List.eq_nil_of_length_eq_zero (by omega)
      exact ⟨rfl, rfl, (by intro c hc; cases hc), (by intro d r h; cases h)⟩
  intro f
  induction f with
  | zero =>
    intro need prev b hf _ h
    obtain rfl : need = 0 := by omega
    exact base 0 prev b h
  | succ f ih =>
    intro need prev b hf hb h
    by_cases h0 : need = 0
    · subst h0; exact base (f + 1) prev b h
    unfold getRuns at h ⊢
    rw [if_neg h0] at h ⊢
    by_cases h1 : b.length = 0
    · rw [if_pos h1] at h; simp at h
    rw [if_neg h1] at h ⊢
    by_cases h2 : (vget b).2.2 ≠ 0
    · rw [if_pos h2] at h; exact absurd h h2
    rw [if_neg h2] at h ⊢
    obtain ⟨b1, g1, g2, g3, g4⟩ := vput_vget b hb (by simpa using h2)
    obtain ⟨u, hu⟩ : ∃ u, u = vget b := ⟨_, rfl⟩
    rw [← hu] at g1 g2 g3 g4 h ⊢
    have hd1 : b.drop u.2.1.toNat = b1 := by rw [g2, Int.toNat_natCast]; exact (congrArg (List.drop _) g1).trans (List.drop_left ..)
    have hb1 : ∀ x ∈ b1, isByte x = true := fun x hx => hb x (by rw [g1]; exact List.mem_append_right _ hx)
    by_cases h3 : u.1 = 0 ∨ u.1 > need
    · rw [if_pos h3] at h; simp at h
    rw [if_neg h3, hd1] at h ⊢
    by_cases h4 : (vget b1).2.2 ≠ 0
    · rw [if_pos h4] at h; exact absurd h h4
    rw [if_neg h4] at h ⊢
    obtain ⟨b2, k1, k2, k3, k4⟩ := vput_vget b1 hb1 (by simpa using h4)
    obtain ⟨v, hv⟩ : ∃ v, v = vget b1 := ⟨_, rfl⟩
    rw [← hv] at k1 k2 k3 k4 h ⊢
    have hd2 : b.drop (u.2.1 + v.2.1).toNat = b2 := by
      rw [show (u.2.1 + v.2.1).toNat = u.2.1.toNat + v.2.1.toNat by omega, ← List.drop_drop, hd1, k2, Int.toNat_natCast]
      exact (congrArg (List.drop _) k1).trans (List.drop_left ..)
    have hb2 : ∀ x ∈ b2, isByte x = true := fun x hx => hb1 x (by rw [k1]; exact List.mem_append_right _ hx)
    by_cases h5 : prev = some (zag v.1)
    · rw [if_pos h5] at h; simp at h
    rw [if_neg h5, hd2] at h ⊢
    by_cases h6 : (getRuns f (need - u.1.toNat) (some (zag v.1)) b2).2 = 0
    · rw [if_pos h6] at h ⊢
      obtain ⟨j1, j2, j3, j4⟩ := ih (need - u.1.toNat) (some (zag v.1)) b2 (by omega) hb2 h6
      generalize getRuns f (need - u.1.toNat) (some (zag v.1)) b2 = G at *
      have hm : 0 < u.1.toNat := by omega
      obtain ⟨m, hmm⟩ : ∃ m, m = u.1.toNat := ⟨_, rfl⟩
      have hum : u.1 = (m : Int) := by omega
      rw [← hmm] at hm j2 ⊢
      have hrep : runsTo 0 0 (List.replicate m (zag v.1) ++ G.1) = enc2 m (zag v.1) ++ runsTo 0 0 G.1 := by
        obtain ⟨m', rfl⟩ : ∃ m', m = m' + 1 := ⟨m - 1, by omega⟩
        rw [List.replicate_succ, List.cons_append]
        conv => lhs; unfold runsTo
        rw [if_neg (by omega), runs_rep _ _ m' (0 + 1) (by omega), show 0 + 1 + m' = m' + 1 by omega]
        exact runs_apart _ _ _ (by omega) (fun d r e e2 => j4 d r e (by rw [e2]))
      refine ⟨?_, by simp [j2]; omega, ?_, ?_⟩
      · dsimp only
        rw [hrep, ← j1]
        unfold enc2
        rw [← hum, zig_zag _ k3, List.append_assoc, ← k1]
        exact g1
      · intro c hc
        rcases List.mem_append.mp hc with hc | hc
        · rw [(List.mem_replicate.mp hc).2]
          exact zag_range _ k3 k4
        · exact j3 c hc
      · intro d r e
        obtain ⟨m', rfl⟩ : ∃ m', m = m' + 1 := ⟨m - 1, by omega⟩
        rw [List.replicate_succ, List.cons_append] at e
        injection e with e _
        rw [← e]
        exact h5
    · rw [if_neg h6] at h
      exact absurd h h6
theorem enc_getInts (b : List Int) (n : Nat) (hb : ∀ x ∈ b, isByte x = true) (h : (getInts b n).2 = 0) : encInts (getInts b n).1 = b ∧ (getInts b n).1.length = n ∧ (∀ v ∈ (getInts b n).1, i64 v) := by
  unfold getInts at h ⊢
  by_cases h1 : (getRuns n n none b).2 = 0
  · rw [if_pos h1] at h ⊢
    obtain ⟨j1, j2, j3, _⟩ := runs_getRuns n n none b (Nat.le_refl n) hb h1
    refine ⟨?_, by rw [sums_length, j2], sums_i64 _ _ _⟩
    unfold encInts
    rw [chg_sums _ 0 0 j3 (by unfold i64; omega) (by unfold i64; omega), ← j1]
  · rw [if_neg h1] at h; exact absurd h h1
theorem getInts_err (b : List Int) (n : Nat) (h : (getInts b n).2 ≠ 0) : (getInts b n).1 = [] := by
  unfold getInts at h ⊢
  split
  · rename_i h1; rw [if_pos h1] at h; exact absurd rfl h
  · rfl
end Go.Proofs.Ytlmcefhpnfoahaa.P
end

section
namespace Go.Proofs.Ytlmcefhpnfoahaa.P
open Go.RowKit Go.Proofs.YtlmcefhpnfoahaaW.PrintWords Go.Proofs.YtlmcefhpnfoahaaW.PrintLast Go.Proofs.YtlmcefhpnfoahaaW.PrintMore
set_option linter.unusedVariables false
set_option linter.unusedSimpArgs false

theorem words_pre : ∀ (m acc : List ByteArray), ∃ q, wordsOf acc m = acc ++ q := by
  intro m
  induction m with
  | nil => intro acc; exact ⟨[], by simp [wordsOf]⟩
  | cons s r ih =>
    intro acc
    unfold wordsOf
    obtain ⟨q, hq⟩ := ih (if s ∈ acc then acc else acc ++ [s])
    by_cases h : s ∈ acc
    · rw [if_pos h] at hq ⊢; exact ⟨q, hq⟩
    · rw [if_neg h] at hq ⊢; exact ⟨s :: q, by rw [hq]; simp⟩
theorem words_mem : ∀ (m acc : List ByteArray) (s : ByteArray), s ∈ m → s ∈ wordsOf acc m := by
  intro m
  induction m with
  | nil => intro acc s h; cases h
  | cons x r ih =>
    intro acc s h
    unfold wordsOf
    rcases List.mem_cons.mp h with rfl | h
    · obtain ⟨q, hq⟩ := words_pre r (if s ∈ acc then acc else acc ++ [s])
      rw [hq]
      apply List.mem_append_left
      split
      · assumption
      · simp
    · exact ih _ s h
theorem words_of : ∀ (m acc : List ByteArray) (s : ByteArray), s ∈ wordsOf acc m → s ∈ acc ∨ s ∈ m := by
  intro m
  induction m with
  | nil => intro acc s h; exact Or.inl h
  | cons x r ih =>
    intro acc s h
    unfold wordsOf at h
    rcases ih _ s h with h | h
    · split at h
      · exact Or.inl h
      · rcases List.mem_append.mp h with h | h
        · exact Or.inl h
        · right; simp at h; simp [h]
    · right; simp [h]
theorem words_length : ∀ (m acc : List ByteArray), (wordsOf acc m).length ≤ acc.length + m.length := by
  intro m
  induction m with
  | nil => intro acc; simp [wordsOf]
  | cons x r ih =>
    intro acc
    unfold wordsOf
    have := ih (if x ∈ acc then acc else acc ++ [x])
    simp only [List.length_cons]
    by_cases h : x ∈ acc
    · rw [if_pos h] at this ⊢; omega
    · rw [if_neg h] at this ⊢; rw [List.length_append, List.length_singleton] at this; omega
theorem getWords_enc (r : List Int) : ∀ (W : List ByteArray), (∀ s ∈ W, s.size ≤ 1000000) → getWords W.length (W.flatMap encT ++ r) = (W, r, 0) := by
  intro W
  induction W with
  | nil => intro _; rfl
  | cons s W ih =>
    intro h
    have hs := h s (by simp)
    have hL : (bytesOf s).length = s.size := bytesOf_length _
    obtain ⟨V, hV⟩ : ∃ V, V = vput 9 (s.size : Int) := ⟨_, rfl⟩
    have e : (s :: W).flatMap encT ++ r = V ++ (bytesOf s ++ (W.flatMap encT ++ r)) := by simp [encT, hV]
    have ev : vget (V ++ (bytesOf s ++ (W.flatMap encT ++ r))) = ((s.size : Int), (V.length : Int), 0) := by rw [hV]; exact vget_vput _ _ (by omega) (by omega)
    have ed : (V ++ (bytesOf s ++ (W.flatMap encT ++ r))).drop (V.length + s.size) = W.flatMap encT ++ r := by rw [← List.drop_drop, List.drop_left, ← hL, List.drop_left]
    have et : (((V ++ (bytesOf s ++ (W.flatMap encT ++ r))).take (V.length + s.size)).drop V.length) = bytesOf s := by
      rw [List.take_length_add_append, List.drop_left, ← hL, List.take_left]
    rw [List.length_cons, e]
    unfold getWords
    rw [ev]
    dsimp only
    rw [show ((V.length : Int) + (s.size : Int)).toNat = V.length + s.size by omega, Int.toNat_natCast, ed, et, ih (fun x hx => h x (by simp [hx])), strOfNums_bytesOf]
    rw [if_neg (by decide), if_neg (by simp only [List.length_append, hL]; omega), if_pos rfl]
theorem idx_get (W : List ByteArray) (s : ByteArray) (h : s ∈ W) : W.idxOf s < W.length ∧ W.getD (W.idxOf s) ⟨#[]⟩ = s := by
  have h1 := List.idxOf_lt_length_of_mem h
  exact ⟨h1, by rw [List.getD_eq_getElem?_getD, List.getElem?_eq_getElem h1]; simp⟩
theorem getWhich_enc (W : List ByteArray) (hW : W.length ≤ 1000000) (r : List Int) : ∀ (m : List ByteArray), (∀ s ∈ m, s ∈ W) → getWhich W m.length (m.flatMap (which W) ++ r) = (m, r, 0) := by
  intro m
  induction m with
  | nil => intro _; rfl
  | cons s m ih =>
    intro h
    obtain ⟨h1, h2⟩ := idx_get W s (h s (by simp))
    obtain ⟨V, hV⟩ : ∃ V, V = vput 9 ((W.idxOf s : Nat) : Int) := ⟨_, rfl⟩
    have e : (s :: m).flatMap (which W) ++ r = V ++ (m.flatMap (which W) ++ r) := by simp [which, hV]
    have ev : vget (V ++ (m.flatMap (which W) ++ r)) = (((W.idxOf s : Nat) : Int), (V.length : Int), 0) := by rw [hV]; exact vget_vput _ _ (by omega) (by omega)
    rw [List.length_cons, e]
    unfold getWhich
    rw [ev]
    dsimp only
    rw [Int.toNat_natCast, Int.toNat_natCast, List.drop_left, ih (fun x hx => h x (by simp [hx])), h2]
    rw [if_neg (by decide), if_neg (by omega), if_pos rfl]
theorem getTexts_enc (m : List ByteArray) (hm : m.length ≤ 1000000) (hs : ∀ s ∈ m, s.size ≤ 1000000) (r : List Int) : getTexts (encTexts m ++ r) m.length = if r = [] then (m, 0) else ([], 21) := by
  have hW := words_length m []
  have hWs : ∀ s ∈ wordsOf [] m, s.size ≤ 1000000 := fun s h => by
    rcases words_of m [] s h with h | h
    · cases h
    · exact hs s h
  have hWm : ∀ s ∈ m, s ∈ wordsOf [] m := fun s h => words_mem m [] s h
  obtain ⟨W, hWd⟩ : ∃ W, W = wordsOf [] m := ⟨_, rfl⟩
  have hE : encTexts m = vput 9 W.length ++ W.flatMap encT ++ m.flatMap (which W) := by unfold encTexts; rw [hWd]
  rw [← hWd] at hW hWs hWm
  simp only [List.length_nil, Nat.zero_add] at hW
  have hE2 : encTexts m ++ r = vput 9 (W.length : Int) ++ (W.flatMap encT ++ (m.flatMap (which W) ++ r)) := by rw [hE]; simp
  have ev : vget (encTexts m ++ r) = ((W.length : Int), ((vput 9 (W.length : Int)).length : Int), 0) := by rw [hE2]; exact vget_vput _ _ (by omega) (by omega)
  have ed : (encTexts m ++ r).drop (vput 9 (W.length : Int)).length = W.flatMap encT ++ (m.flatMap (which W) ++ r) := by rw [hE2, List.drop_left]
  unfold getTexts
  rw [ev]
  dsimp only
  rw [Int.toNat_natCast, Int.toNat_natCast, ed, getWords_enc _ W hWs]
  dsimp only
  rw [getWhich_enc W (by omega) r m hWm]
  dsimp only
  rw [if_neg (by decide), if_neg (by omega), if_neg (by decide), if_neg (by decide)]
  by_cases hr : r = []
  · subst hr; rw [if_pos (by rw [List.append_nil]), if_pos rfl]
  · rw [if_neg (fun h => hr (by have := congrArg List.length h; rw [List.length_append] at this; exact List.eq_nil_of_length_eq_zero (by omega))), if_neg hr]
theorem getWhich_length (W : List ByteArray) : ∀ (n : Nat) (b : List Int), (getWhich W n b).2.2 = 0 → (getWhich W n b).1.length = n := by
  intro n
  induction n with
  | zero => intro b _; rfl
  | succ n ih =>
    intro b h
    unfold getWhich at h ⊢
    by_cases h1 : (vget b).2.2 ≠ 0
    · rw [if_pos h1] at h; exact absurd h h1
    rw [if_neg h1] at h ⊢
    by_cases h2 : (vget b).1 ≥ (W.length : Int)
    · rw [if_pos h2] at h; simp at h
    rw [if_neg h2] at h ⊢
    by_cases h3 : (getWhich W n (b.drop (vget b).2.1.toNat)).2.2 = 0
    · rw [if_pos h3] at h ⊢
      simp [ih _ h3]
    · rw [if_neg h3] at h; exact absurd h h3
theorem enc_getTexts (b : List Int) (n : Nat) (h : (getTexts b n).2 = 0) : encTexts (getTexts b n).1 = b ∧ (getTexts b n).1.length = n := by
  unfold getTexts at h ⊢
  by_cases h1 : (vget b).2.2 ≠ 0
  · rw [if_pos h1] at h; exact absurd h h1
  rw [if_neg h1] at h ⊢
  by_cases h2 : (vget b).1 > n
  · rw [if_pos h2] at h; simp at h
  rw [if_neg h2] at h ⊢
  generalize getWords (vget b).1.toNat (b.drop (vget b).2.1.toNat) = G at *
  by_cases h3 : G.2.2 ≠ 0
  · rw [if_pos h3] at h; exact absurd h h3
  rw [if_neg h3] at h ⊢
  have hl := getWhich_length G.1 n G.2.1
  generalize getWhich G.1 n G.2.1 = H at *
  by_cases h4 : H.2.2 ≠ 0
  · rw [if_pos h4] at h; exact absurd h h4
  rw [if_neg h4] at h ⊢
  by_cases h5 : encTexts H.1 = b
  · rw [if_pos h5]; exact ⟨h5, hl (by simpa using h4)⟩
  · rw [if_neg h5] at h; simp at h
theorem cntF_shift (nul : Nat → Bool) : ∀ n, cntF nul (n + 1) = (if nul 0 then 0 else 1) + cntF (fun i => nul (i + 1)) n := by
  intro n
  unfold cntF
  rw [List.range_succ_eq_map, List.filter_cons, List.filter_map, ]
  cases h : nul 0
  · simp [Function.comp_def]; omega
  · simp [Function.comp_def]
theorem cntF_marks : ∀ (l : List S39) (nul : Nat → Bool), (∀ j, j < l.length → nul j = nulV (rd_T39 l j)) → cntF nul l.length = (marksOf l).length := by
  intro l
  induction l with
  | nil => intro _ _; rfl
  | cons x l ih =>
    intro nul h
    have h0 := h 0 (by simp)
    rw [rdT_zero] at h0
    have hi := ih (fun i => nul (i + 1)) (fun j hj => by have := h (j + 1) (by simp; omega); rw [rdT_succ] at this; exact this)
    rw [List.length_cons, cntF_shift, hi, h0]
    unfold marksOf
    rw [List.filter_cons]
    cases hx : nulV x
    · simp; omega
    · simp
theorem merge_marks (nul : Nat → Bool) : ∀ (l : List S39) (i : Nat), (∀ j, j < l.length → nul (i + j) = nulV (rd_T39 l j)) → (∀ x ∈ l, nulV x = true → x = z39) → merge nul i l.length (marksOf l) = l := by
  intro l
  induction l with
  | nil => intro _ _ _; rfl
  | cons x l ih =>
    intro i h hz
    have h0 := h 0 (by simp)
    rw [rdT_zero, Nat.add_zero] at h0
    have hi := ih (i + 1) (fun j hj => by have := h (j + 1) (by simp; omega); rw [rdT_succ] at this; rw [← this]; congr 1; omega) (fun y hy => hz y (by simp [hy]))
    rw [List.length_cons]
    unfold merge
    rw [h0]
    unfold marksOf at hi ⊢
    rw [List.filter_cons]
    cases hx : nulV x
    · simp [hi]
    · have := hz x (by simp) hx
      simp [hi, this]
theorem marks_merge (nul : Nat → Bool) : ∀ (n i : Nat) (m : List S39), cntF (fun j => nul (i + j)) n = m.length → (∀ x ∈ m, nulV x = false) → marksOf (merge nul i n m) = m ∧ (merge nul i n m).length = n ∧ (∀ j, j < n → nulV (rd_T39 (merge nul i n m) j) = nul (i + j)) ∧ (∀ x ∈ merge nul i n m, x = z39 ∨ x ∈ m) := by
  intro n
  induction n with
  | zero =>
    intro i m h _
    have : m = [] := List.eq_nil_of_length_eq_zero (by rw [← h]; rfl)
    subst this
    exact ⟨rfl, rfl, by intro j hj; omega, by intro x hx; cases hx⟩
  | succ n ih =>
    intro i m h hm
    rw [cntF_shift] at h
    have hsh : (fun j => nul (i + (j + 1))) = (fun j => nul (i + 1 + j)) := by funext j; congr 1; omega
    rw [hsh, Nat.add_zero] at h
    unfold merge
    cases hn : nul i
    · rw [hn] at h
      cases m with
      | nil => simp at h
      | cons x m =>
        have hx := hm x (by simp)
        obtain ⟨g1, g2, g3, g4⟩ := ih (i + 1) m (by simp at h; omega) (fun y hy => hm y (by simp [hy]))
        simp only [Bool.false_eq_true, if_false, List.headD_cons, List.tail_cons]
        refine ⟨?_, by simp [g2], ?_, ?_⟩
        · unfold marksOf at g1 ⊢
          rw [List.filter_cons, hx]
          simp [g1]
        · intro j hj
          cases j with
          | zero => exact hx.trans hn.symm
          | succ j => rw [rdT_succ, g3 j (by omega)]; congr 1; omega
        · intro y hy
          rcases List.mem_cons.mp hy with rfl | hy
          · right; simp
          · rcases g4 y hy with h | h
            · exact Or.inl h
            · right; simp [h]
    · rw [hn] at h
      obtain ⟨g1, g2, g3, g4⟩ := ih (i + 1) m (by simpa using h) hm
      simp only [if_true]
      refine ⟨?_, by simp [g2], ?_, ?_⟩
      · unfold marksOf at g1 ⊢
        rw [List.filter_cons]
        have : nulV z39 = true := rfl
        simp [this, g1]
      · intro j hj
        cases j with
        | zero => exact (rfl : nulV z39 = true).trans hn.symm
        | succ j => rw [rdT_succ, g3 j (by omega)]; congr 1; omega
      · intro y hy
        rcases List.mem_cons.mp hy with rfl | hy
        · exact Or.inl rfl
        · exact g4 y hy
theorem marks_fit (kind : Int) (l : List S39) (hk : isKind kind) (hf : fitCol kind l = true) : ∀ x ∈ marksOf l, x ∈ l ∧ mayB x = true ∧ x.f0 = kind := by
  intro x hx
  unfold marksOf at hx
  rw [List.mem_filter] at hx
  unfold fitCol at hf
  rw [List.all_eq_true] at hf
  have h := hf x hx.1
  unfold rowMay at h
  rw [Bool.and_eq_true, Bool.or_eq_true, beq_iff_eq, beq_iff_eq] at h
  refine ⟨hx.1, h.1, ?_⟩
  have h2 := hx.2
  unfold nulV at h2
  rcases h.2 with h3 | h3
  · rw [h3] at h2; simp at h2
  · exact h3
theorem getMarks_enc (kind : Int) (hk : isKind kind) (m : List S39) (hm : ∀ x ∈ m, mayB x = true ∧ x.f0 = kind) (ho : ∀ x ∈ m, okV x) (hn : m.length ≤ 1000000) (r : List Int) : getMarks kind (encMarks kind m ++ r) m.length = if r = [] then (m, 0) else ([], 21) := by
  rcases hk with rfl | rfl | rfl
  · unfold getMarks encMarks
    rw [if_pos rfl, if_pos rfl]
    have hl := lay_length (fun i : Nat => (rd_T39 m i).f1 == 1) m.length
    obtain ⟨H, hH⟩ : ∃ H, H = lay (fun i : Nat => (rd_T39 m i).f1 == 1) m.length := ⟨_, rfl⟩
    have hbit : ∀ j, j < 8 * ((m.length + 7) / 8) → bitAt (H ++ r) j = (decide (j < m.length) && ((rd_T39 m j).f1 == 1)) := fun j hj => by
      rw [bitAt_append _ _ _ (by rw [hH, hl]; exact hj), hH, lay_bit]
    rw [← hH] at hl ⊢
    have hlo : loose (H ++ r) m.length = false := by
      unfold loose
      rw [List.any_eq_false]
      intro j hj
      rw [List.mem_range] at hj
      rw [hbit _ (by omega), decide_eq_false (by omega), Bool.false_and]
      decide
    unfold getTruths
    rw [if_neg (by rw [List.length_append]; omega), if_neg (by rw [hlo]; decide), ← hl, List.drop_left]
    by_cases hr : r = []
    · subst hr
      rw [if_neg (by simp), if_pos rfl]
      congr 1
      apply List.ext_getElem (by simp)
      intro i h1 h2
      have hx := hm m[i] (List.getElem_mem h2)
      have hrd : rd_T39 m (i : Nat) = m[i] := by simp [rd_T39, List.getD_eq_getElem?_getD, List.getElem?_eq_getElem h2]
      rw [List.getElem_map, List.getElem_range, hbit i (by omega), hrd]
      rcases mayB_cases m[i] hx.1 with ⟨e, _⟩ | ⟨e, hv, e2⟩ | ⟨e, e2⟩ | ⟨e, e2⟩
      · omega
      · rw [decide_eq_true h2, Bool.true_and]
        conv => rhs; rw [e2]
        rcases hv with hv | hv <;> rw [hv] <;> rfl
      · omega
      · omega
    · rw [if_pos (List.length_pos_iff.mpr hr), if_neg hr]
  · unfold getMarks encMarks
    rw [if_neg (by decide), if_pos rfl, if_neg (by decide), if_pos rfl]
    have hi : ∀ v ∈ m.map S39.f1, i64 v := by
      intro v hv
      obtain ⟨x, hx, rfl⟩ := List.mem_map.mp hv
      have := (ho x hx).1
      simpa [okNum, i64] using this
    have h := getInts_enc (m.map S39.f1) r hi (by simpa using hn)
    rw [List.length_map] at h
    rw [h]
    by_cases hr : r = []
    · rw [if_pos hr, if_pos hr, List.map_map]
      congr 1
      conv => rhs; rw [← List.map_id m]
      apply List.map_congr_left
      intro x hx
      have := hm x hx
      rcases mayB_cases x this.1 with ⟨e, _⟩ | ⟨e, hv, e2⟩ | ⟨e, e2⟩ | ⟨e, e2⟩ <;> first | omega | exact e2.symm
    · rw [if_neg hr, if_neg hr]; rfl
  · unfold getMarks encMarks
    rw [if_neg (by decide), if_neg (by decide), if_neg (by decide), if_neg (by decide)]
    have hs : ∀ s ∈ m.map S39.f2, s.size ≤ 1000000 := by
      intro v hv
      obtain ⟨x, hx, rfl⟩ := List.mem_map.mp hv
      exact (ho x hx).2
    have h := getTexts_enc (m.map S39.f2) (by simpa using hn) hs r
    rw [List.length_map] at h
    rw [h]
    by_cases hr : r = []
    · rw [if_pos hr, if_pos hr, List.map_map]
      congr 1
      conv => rhs; rw [← List.map_id m]
      apply List.map_congr_left
      intro x hx
      have := hm x hx
      rcases mayB_cases x this.1 with ⟨e, _⟩ | ⟨e, hv, e2⟩ | ⟨e, e2⟩ | ⟨e, e2⟩ <;> first | omega | exact e2.symm
    · rw [if_neg hr, if_neg hr]; rfl
theorem marks_le (l : List S39) : (marksOf l).length ≤ l.length := List.length_filter_le _ _
theorem getCol_enc (kind : Int) (hk : isKind kind) (l : List S39) (hf : fitCol kind l = true) (ho : ∀ x ∈ l, okV x) (hn : l.length ≤ 1000000) (r : List Int) : getCol kind (encCol kind l ++ r) l.length = if r = [] then (l, 0) else ([], 21) := by
  have hl := lay_length (fun i : Nat => nulV (rd_T39 l i)) l.length
  obtain ⟨H, hH⟩ : ∃ H, H = lay (fun i : Nat => nulV (rd_T39 l i)) l.length := ⟨_, rfl⟩
  have hE : encCol kind l ++ r = H ++ (encMarks kind (marksOf l) ++ r) := by unfold encCol; rw [← hH, List.append_assoc]
  have hbit : ∀ j, j < 8 * ((l.length + 7) / 8) → bitAt (H ++ (encMarks kind (marksOf l) ++ r)) j = (decide (j < l.length) && nulV (rd_T39 l j)) := fun j hj => by
    rw [bitAt_append _ _ _ (by rw [hH, hl]; exact hj), hH, lay_bit]
  rw [← hH] at hl
  have hlo : loose (H ++ (encMarks kind (marksOf l) ++ r)) l.length = false := by
    unfold loose
    rw [List.any_eq_false]
    intro j hj
    rw [List.mem_range] at hj
    rw [hbit _ (by omega), decide_eq_false (by omega), Bool.false_and]
    decide
  have hb : ∀ j, j < l.length → bitAt (H ++ (encMarks kind (marksOf l) ++ r)) j = nulV (rd_T39 l j) := fun j hj => by rw [hbit j (by omega)]; simp [hj]
  have hmf := marks_fit kind l hk hf
  have hgm := getMarks_enc kind hk (marksOf l) (fun x hx => (hmf x hx).2) (fun x hx => ho x (hmf x hx).1) (by have := marks_le l; omega) r
  have hz : ∀ x ∈ l, nulV x = true → x = z39 := by
    intro x hx hn
    unfold fitCol at hf
    rw [List.all_eq_true] at hf
    have h := hf x hx
    unfold rowMay at h
    rw [Bool.and_eq_true] at h
    have h0 : x.f0 = 0 := by simpa [nulV] using hn
    rcases mayB_cases x h.1 with ⟨_, e⟩ | ⟨e, _⟩ | ⟨e, _⟩ | ⟨e, _⟩ <;> first | exact e | omega
  rw [hE]
  unfold getCol
  rw [if_neg (by rw [List.length_append]; omega), if_neg (by rw [hlo]; decide), ← hl, List.drop_left, cntF_marks l _ hb, hgm]
  by_cases hr : r = []
  · rw [if_pos hr, if_pos hr, if_neg (by simp)]
    dsimp only
    rw [merge_marks _ l 0 (fun j hj => by rw [Nat.zero_add]; exact hb j hj) hz]
  · rw [if_neg hr, if_neg hr, if_pos (by decide)]
theorem bytes_part (s : ByteArray) (l : List Int) (a b : List Int) (h : l = a ++ encT s ++ b) : s.size ≤ l.length := by
  have := bytesOf_length s
  rw [h]
  unfold encT
  simp only [List.length_append]
  omega
theorem texts_size (m : List ByteArray) : ∀ s ∈ m, s.size ≤ (encTexts m).length := by
  intro s hs
  have h := words_mem m [] s hs
  obtain ⟨a, b, e⟩ := List.append_of_mem h
  have e2 : encTexts m = (vput 9 ((wordsOf [] m).length : Int) ++ a.flatMap encT) ++ encT s ++ (b.flatMap encT ++ m.flatMap (which (wordsOf [] m))) := by
    unfold encTexts
    conv => lhs; lhs; rhs; rw [e]
    simp
  exact bytes_part s _ _ _ e2
theorem enc_getMarks (kind : Int) (hk : isKind kind) (b : List Int) (n : Nat) (hb : ∀ x ∈ b, isByte x = true) (h : (getMarks kind b n).2 = 0) :
    encMarks kind (getMarks kind b n).1 = b ∧ (getMarks kind b n).1.length = n ∧ (∀ x ∈ (getMarks kind b n).1, mayB x = true ∧ x.f0 = kind ∧ okNum x = true ∧ x.f2.size ≤ b.length) := by
  rcases hk with rfl | rfl | rfl
  · unfold getMarks encMarks at *
    rw [if_pos rfl] at h ⊢
    unfold getTruths at h ⊢
    by_cases h2 : b.length < (n + 7) / 8
    · rw [if_pos h2] at h; simp at h
    rw [if_neg h2] at h ⊢
    by_cases h3 : loose b n = true
    · rw [if_pos h3] at h; simp at h
    rw [if_neg h3] at h ⊢
    by_cases h4 : 0 < (b.drop ((n + 7) / 8)).length
    · rw [if_pos h4] at h; simp at h
    rw [if_neg h4] at h ⊢
    rw [List.length_drop] at h4
    refine ⟨?_, by simp, ?_⟩
    · rw [if_pos rfl]
      dsimp only
      rw [List.length_map, List.length_range]
      apply lay_of _ _ hb (by omega)
      · intro j hj hj2
        unfold loose at h3
        rw [Bool.not_eq_true, List.any_eq_false] at h3
        have := h3 (j - n) (List.mem_range.mpr (by omega))
        rw [show n + (j - n) = j by omega] at this
        simpa using this
      · intro j hj
        have e : rd_T39 ((List.range n).map fun i => (⟨1, if bitAt b i then 1 else 0, ⟨#[]⟩⟩ : S39)) (j : Nat) = ⟨1, if bitAt b j then 1 else 0, ⟨#[]⟩⟩ := by
          simp [rd_T39, List.getD_eq_getElem?_getD, hj]
        rw [e]
        cases bitAt b j <;> rfl
    · intro x hx
      obtain ⟨i, _, rfl⟩ := List.mem_map.mp hx
      refine ⟨may1 _ ?_, rfl, ?_, Nat.zero_le _⟩
      · split
        · exact Or.inr rfl
        · exact Or.inl rfl
      · split <;> rfl
  · unfold getMarks encMarks at *
    rw [if_neg (by decide), if_pos rfl] at h ⊢
    obtain ⟨g1, g2, g3⟩ := enc_getInts b n hb h
    refine ⟨?_, by simpa using g2, ?_⟩
    · rw [if_neg (by decide), if_pos rfl]
      dsimp only
      rw [List.map_map]
      have e : (S39.f1 ∘ fun v : Int => (⟨2, v, ⟨#[]⟩⟩ : S39)) = id := rfl
      rw [e, List.map_id, g1]
    · intro x hx
      obtain ⟨v, hv, rfl⟩ := List.mem_map.mp hx
      have := g3 v hv
      unfold i64 at this
      exact ⟨may2 v, rfl, by simp [okNum]; exact this, Nat.zero_le _⟩
  · unfold getMarks encMarks at *
    rw [if_neg (by decide), if_neg (by decide)] at h ⊢
    obtain ⟨g1, g2⟩ := enc_getTexts b n h
    refine ⟨?_, by simpa using g2, ?_⟩
    · rw [if_neg (by decide), if_neg (by decide)]
      dsimp only
      rw [List.map_map]
      have e : (S39.f2 ∘ fun s : ByteArray => (⟨3, 0, s⟩ : S39)) = id := rfl
      rw [e, List.map_id, g1]
    · intro x hx
      obtain ⟨v, hv, rfl⟩ := List.mem_map.mp hx
      refine ⟨by simp [mayB], rfl, by simp [okNum], ?_⟩
      have := texts_size _ v hv
      rw [g1] at this
      exact this
theorem enc_getCol (kind : Int) (hk : isKind kind) (b : List Int) (n : Nat) (hb : ∀ x ∈ b, isByte x = true) (h : (getCol kind b n).2 = 0) :
    fitCol kind (getCol kind b n).1 = true ∧ encCol kind (getCol kind b n).1 = b ∧ (getCol kind b n).1.length = n ∧ (∀ x ∈ (getCol kind b n).1, okNum x = true ∧ x.f2.size ≤ b.length) := by
  unfold getCol at h ⊢
  by_cases h2 : b.length < (n + 7) / 8
  · rw [if_pos h2] at h; simp at h
  rw [if_neg h2] at h ⊢
  by_cases h3 : loose b n = true
  · rw [if_pos h3] at h; simp at h
  rw [if_neg h3] at h ⊢
  obtain ⟨q, hq⟩ : ∃ q, q = getMarks kind (b.drop ((n + 7) / 8)) (cntF (bitAt b) n) := ⟨_, rfl⟩
  rw [← hq] at h ⊢
  by_cases h4 : q.2 ≠ 0
  · rw [if_pos h4] at h; exact absurd h h4
  rw [if_neg h4] at h ⊢
  obtain ⟨g1, g2, g3⟩ := enc_getMarks kind hk (b.drop ((n + 7) / 8)) (cntF (bitAt b) n) (fun x hx => hb x (List.mem_of_mem_drop hx)) (by rw [← hq]; simpa using h4)
  rw [← hq] at g1 g2 g3
  have hnn : ∀ x ∈ q.1, nulV x = false := by
    intro x hx
    have := (g3 x hx).2.1
    unfold nulV
    rw [this]
    rcases hk with rfl | rfl | rfl <;> rfl
  obtain ⟨k1, k2, k3, k4⟩ := marks_merge (bitAt b) n 0 q.1 (by rw [g2]; congr 1; funext j; rw [Nat.zero_add]) hnn
  have hz0 : rowMay kind z39 = true := by unfold rowMay; rw [may0]; rfl
  refine ⟨?_, ?_, k2, ?_⟩
  · unfold fitCol
    rw [List.all_eq_true]
    intro x hx
    rcases k4 x hx with rfl | hx
    · exact hz0
    · obtain ⟨a1, a2, _⟩ := g3 x hx
      unfold rowMay
      rw [a1, a2]
      simp
  · unfold encCol
    dsimp only
    rw [k1, g1, k2]
    have htl : (b.take ((n + 7) / 8)).length = (n + 7) / 8 := by rw [List.length_take]; omega
    have hbt : ∀ j, j < 8 * ((n + 7) / 8) → bitAt (b.take ((n + 7) / 8)) j = bitAt b j := fun j hj => by
      have := bitAt_append (b.take ((n + 7) / 8)) (b.drop ((n + 7) / 8)) j (by omega)
      rw [List.take_append_drop] at this
      exact this.symm
    have hlay : lay (fun i : Nat => nulV (rd_T39 (merge (bitAt b) 0 n q.1) i)) n = b.take ((n + 7) / 8) := by
      apply lay_of _ _ (fun x hx => hb x (List.mem_of_mem_take hx)) htl
      · intro j hj hj2
        rw [htl] at hj2
        rw [hbt j hj2]
        unfold loose at h3
        rw [Bool.not_eq_true, List.any_eq_false] at h3
        have := h3 (j - n) (List.mem_range.mpr (by omega))
        rw [show n + (j - n) = j by omega] at this
        simpa using this
      · intro j hj
        rw [hbt j (by omega)]
        have := k3 j hj
        rw [Nat.zero_add] at this
        exact this
    rw [hlay, List.take_append_drop]
  · intro x hx
    rcases k4 x hx with rfl | hx
    · exact ⟨rfl, Nat.zero_le _⟩
    · obtain ⟨_, _, a3, a4⟩ := g3 x hx
      rw [List.length_drop] at a4
      exact ⟨a3, by omega⟩
end Go.Proofs.Ytlmcefhpnfoahaa.P
end

section
namespace Go.Proofs.Ytlmcefhpnfoahaa.P
open Go.RowKit Go.Proofs.YtlmcefhpnfoahaaW.PrintWords Go.Proofs.YtlmcefhpnfoahaaW.PrintLast Go.Proofs.YtlmcefhpnfoahaaW.PrintMore
set_option linter.unusedVariables false
set_option linter.unusedSimpArgs false

end Go.Proofs.Ytlmcefhpnfoahaa.P
end

section
namespace Go.Proofs.Ytlmcefhpnfoahaa.P
open Go.RowKit Go.Proofs.YtlmcefhpnfoahaaW.PrintWords Go.Proofs.YtlmcefhpnfoahaaW.PrintLast Go.Proofs.YtlmcefhpnfoahaaW.PrintMore
set_option linter.unusedVariables false
set_option linter.unusedSimpArgs false

end Go.Proofs.Ytlmcefhpnfoahaa.P
end

section
namespace Go.Proofs.Ytlmcefhpnfoahaa.P
open Go.RowKit Go.Proofs.YtlmcefhpnfoahaaW.PrintWords Go.Proofs.YtlmcefhpnfoahaaW.PrintLast Go.Proofs.YtlmcefhpnfoahaaW.PrintMore
attribute [local go_sem] max2_int min2_int max_two min_two max_three min_three max_four min_four   -- for this text's walks alone
set_option linter.unusedVariables false
set_option linter.unusedSimpArgs false

end Go.Proofs.Ytlmcefhpnfoahaa.P
end

section
namespace Go.Proofs.Ytlmcefhpnfoahaa.P
open Go.RowKit Go.Proofs.YtlmcefhpnfoahaaW.PrintWords Go.Proofs.YtlmcefhpnfoahaaW.PrintLast Go.Proofs.YtlmcefhpnfoahaaW.PrintMore
set_option linter.unusedVariables false
set_option linter.unusedSimpArgs false
theorem rd_get {l : List Int} {i : Nat} (h : i < l.length) : rd l (i : Int) = l[i] := by simp [rd, List.getD_eq_getElem?_getD, List.getElem?_eq_getElem h]
theorem tdiv8 (i : Nat) (hi : i ≤ 1000000) : wrap64 (Int.tdiv (i : Int) 8) = ((i / 8 : Nat) : Int) := by
  rw [Int.tdiv_eq_ediv_of_nonneg (by omega)]
  unfold wrap64
  omega
theorem tmod8 (i : Nat) : Int.tmod (i : Int) 8 = ((i % 8 : Nat) : Int) := by rw [Int.tmod_eq_emod_of_nonneg (by omega)]; omega
theorem same_k (a b : List S39) (hm : a.length ≤ maxLen) (k : Nat) (hk : a.length < k) : ∃ r, tidelineref03_Same.f k a b = some r ∧ (r = true ↔ a = b) := by
  obtain ⟨r, h1, h2⟩ := refSame a b hm
  exact ⟨r, leO_le (g := fun k => tidelineref03_Same.f k a b) (tidelineref03_Same.mono a b) hk h1, h2⟩
theorem same_self_k (a : List S39) (hm : a.length ≤ maxLen) (k : Nat) (hk : a.length < k) : tidelineref03_Same.f k a a = some true := by
  obtain ⟨r, h1, h2⟩ := same_k a a hm k hk
  rw [h1, h2.mpr rfl]
end Go.Proofs.Ytlmcefhpnfoahaa.P
end
