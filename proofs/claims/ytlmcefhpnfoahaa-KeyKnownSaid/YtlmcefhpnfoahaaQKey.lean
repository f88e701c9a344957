/- What the references of layer 3 compute, in the words of SKey: plain laws on lists. Conditions: the values are of their kinds, the bounds that each statement's guards let in. -/
import Derived.Test.YtlmcefhpnfoahaaSKey
import Derived.Test.YtlmcefhpnfoahaaG30
import Derived.Test.YtlmcefhpnfoahaaKR
import Derived.Test.YtlmcefhpnfoahaaPf29
import Derived.Test.YtlmcefhpnfoahaaPf31
import Derived.Test.YtlmcefhpnfoahaaPf32
import Derived.Test.YtlmcefhpnfoahaaPf33
import Derived.Test.YtlmcefhpnfoahaaPf34
import Derived.Test.YtlmcefhpnfoahaaPf37
namespace Go.Proofs.Ytlmcefhpnfoahaa.P
open Go.RowKit Go.Proofs.YtlmcefhpnfoahaaW.PrintWords Go.Proofs.YtlmcefhpnfoahaaW.PrintLast Go.Proofs.YtlmcefhpnfoahaaW.PrintMore

theorem w64 {x : Int} (h1 : -9223372036854775808 ≤ x) (h2 : x ≤ 9223372036854775807) : wrap64 x = x := by
  unfold wrap64
  omega
theorem w64s (i : Nat) (h : i < 9223372036854775807) : wrap64 ((i : Int) + 1) = ((i + 1 : Nat) : Int) := by
  rw [w64 (by omega) (by omega)]
  omega
theorem rdT_mem {l : List S39} {k : Nat} (h : k < l.length) : rd_T39 l k ∈ l := by
  unfold rd_T39
  rw [Int.toNat_natCast, List.getD_eq_getElem?_getD, List.getElem?_eq_getElem h]
  exact List.getElem_mem h
theorem rdT_get {l : List S39} {k : Nat} (h : k < l.length) : rd_T39 l k = l[k] := by
  unfold rd_T39
  rw [Int.toNat_natCast, List.getD_eq_getElem?_getD, List.getElem?_eq_getElem h]
  rfl

/-! long -/
theorem long_l0 (l : List S39) (hl : l.length < 1000000) : ∀ (d k i : Nat), i + d = l.length → d < k → ∃ r, tidelinelaw03_long.l0 k l i = some r ∧ (r = false → ∀ j, i ≤ j → j < l.length → (rd_T39 l j).f2.size ≤ 300) := by
  intro d
  induction d with
  | zero =>
    intro k i hi hk
    obtain ⟨k, rfl⟩ : ∃ m, k = m + 1 := ⟨k - 1, by omega⟩
    refine ⟨false, ?_, fun _ j h1 h2 => by omega⟩
    simp only [tidelinelaw03_long.l0]
    rw [if_neg (by omega)]
  | succ d ih =>
    intro k i hi hk
    obtain ⟨k, rfl⟩ : ∃ m, k = m + 1 := ⟨k - 1, by omega⟩
    simp only [tidelinelaw03_long.l0]
    rw [if_pos (by omega), if_pos (by omega)]
    by_cases h : ((rd_T39 l i).f2.size : Int) > 300
    · exact ⟨true, by rw [if_pos h], fun h => by cases h⟩
    · obtain ⟨r, hr, hp⟩ := ih k (i + 1) (by omega) (by omega)
      refine ⟨r, by rw [if_neg h, w64s i (by omega)]; exact hr, fun h0 j h1 h2 => ?_⟩
      rcases Nat.lt_or_ge i j with h3 | h3
      · exact hp h0 j (by omega) h2
      · obtain rfl : j = i := by omega
        omega
theorem long_some (l : List S39) : ∃ r, tidelinelaw03_long.f 32 l = some r ∧ (r = false → l.length ≤ 30 ∧ ∀ j, j < l.length → (rd_T39 l j).f2.size ≤ 300) := by
  unfold tidelinelaw03_long.f
  by_cases h : (l.length : Int) > 30
  · exact ⟨true, by rw [if_pos h], fun h => by cases h⟩
  · obtain ⟨r, hr, hp⟩ := long_l0 l (by omega) l.length 32 0 (by omega) (by omega)
    refine ⟨r, by rw [if_neg h]; exact hr, fun h0 => ⟨by omega, fun j hj => hp h0 j (Nat.zero_le _) hj⟩⟩

/-! May, may -/
theorem refMay {x : S39} (h : 0 ≤ x.f0) : tidelineref03_May.f x.f0 x.f1 x.f2 = some (mayB x) := by
  unfold tidelineref03_May.f mayB
  have e : x.f2.toList = [] ↔ x.f2.toList.isEmpty = true := by simp
  by_cases h4 : x.f0 > 3
  · rw [if_pos h4]
    have h0 : (x.f0 == 0) = false := by simp; omega
    have h1 : (x.f0 == 1) = false := by simp; omega
    have h2 : (x.f0 == 2) = false := by simp; omega
    have h3 : (x.f0 == 3) = false := by simp; omega
    simp [h0, h1, h2, h3]
  · rw [if_neg h4]
    have hc : x.f0 = 0 ∨ x.f0 = 1 ∨ x.f0 = 2 ∨ x.f0 = 3 := by omega
    by_cases he : x.f2.toList = []
    · have he' := e.1 he
      rcases hc with hc | hc | hc | hc
      · rw [hc, he']; by_cases h1 : x.f1 = 0 <;> simp [he, h1]
      · rw [hc, he']; by_cases h1 : x.f1 = 0 <;> simp [he, h1]
      · rw [hc, he']; simp [he]
      · rw [hc, he']; by_cases h1 : x.f1 = 0 <;> simp [h1]
    · have he' : x.f2.toList.isEmpty = false := by
        cases hb : x.f2.toList.isEmpty with
        | false => rfl
        | true => exact absurd (e.2 hb) he
      rcases hc with hc | hc | hc | hc
      · rw [hc, he']; simp [he]
      · rw [hc, he']; simp [he]
      · rw [hc, he']; simp [he]
      · rw [hc, he']; by_cases h1 : x.f1 = 0 <;> simp [h1]
theorem lawMay_l0 (l : List S39) (hl : l.length ≤ maxLen) (hv : ∀ x ∈ l, okVal x) : ∀ (d k i : Nat), i + d = l.length → d < k → tidelinelaw03_may.l0 k l i = some ((l.drop i).all mayB) := by
  unfold maxLen at hl
  intro d
  induction d with
  | zero =>
    intro k i hi hk
    obtain ⟨k, rfl⟩ : ∃ m, k = m + 1 := ⟨k - 1, by omega⟩
    simp only [tidelinelaw03_may.l0]
    rw [if_neg (by omega), List.drop_eq_nil_of_le (by omega)]
    rfl
  | succ d ih =>
    intro k i hi hk
    obtain ⟨k, rfl⟩ : ∃ m, k = m + 1 := ⟨k - 1, by omega⟩
    have hlt : i < l.length := by omega
    simp only [tidelinelaw03_may.l0]
    rw [if_pos (by omega), if_pos (by omega), refMay (hv _ (rdT_mem hlt)).1.1, List.drop_eq_getElem_cons hlt, List.all_cons, ← rdT_get hlt]
    simp only [Option.bind_some]
    by_cases h : mayB (rd_T39 l i) = true
    · rw [if_pos h, w64s i (by omega), ih k (i + 1) (by omega) (by omega), h, Bool.true_and]
    · rw [if_neg h]
      simp only [Bool.not_eq_true] at h
      rw [h, Bool.false_and]
theorem lawMay (l : List S39) (hl : l.length ≤ maxLen) (hv : ∀ x ∈ l, okVal x) : tidelinelaw03_may.f (l.length + 1) l = some (l.all mayB) :=
  lawMay_l0 l hl hv l.length (l.length + 1) 0 (by omega) (by omega)

/-! One -/
theorem high_eq (u : Int) (h0 : 0 ≤ u) (h1 : u < 18446744073709551616) (k : Nat) (hk : 9 ≤ k) : tidelineref03_high.f k u = some ([56, 48, 40, 32, 24, 16, 8, 0].map fun j : Nat => u / 2 ^ j % 256) := by
  have hw : ∀ m : Int, 0 ≤ m → m < 18446744073709551616 → IntKind.u64.wrap m = m := fun m a b => by
    show m % 18446744073709551616 = m
    omega
  have ht : ∀ m : Int, 0 ≤ m → Int.tdiv m 256 = m / 256 := fun m a => Int.tdiv_eq_ediv_of_nonneg a
  have hm : ∀ m : Int, 0 ≤ m → Int.tmod m 256 = m % 256 := fun m a => Int.tmod_eq_emod_of_nonneg a
  have step : ∀ (k : Nat) (x : Int) (l : List Int) (i : Nat), 0 ≤ x → x < 18446744073709551616 → i < 8 → l.length = 8 → tidelineref03_high.l0 (k + 1) x l (i : Int) = tidelineref03_high.l0 k (x / 256) (l.set i (x % 256)) (wrap64 ((i : Int) - 1)) := by
    intro k x l i a b c d
    simp only [tidelineref03_high.l0]
    rw [if_pos (by omega), if_pos (by omega), if_pos (by omega), ht x a, hm x a, hw _ (by omega) (by omega), Int.toNat_natCast]
    congr 1
    congr 1
    omega
  unfold tidelineref03_high.f
  rw [if_pos (by omega)]
  obtain ⟨m, rfl⟩ : ∃ m, k = m + 9 := ⟨k - 9, by omega⟩
  have e7 := step (m + 8) u (List.replicate 8 0) 7 h0 h1 (by omega) rfl
  have e6 := step (m + 7) (u / 256) ((List.replicate 8 0).set 7 (u % 256)) 6 (by omega) (by omega) (by omega) (by simp)
  have e5 := step (m + 6) (u / 256 / 256) (((List.replicate 8 0).set 7 (u % 256)).set 6 (u / 256 % 256)) 5 (by omega) (by omega) (by omega) (by simp)
  have e4 := step (m + 5) (u / 256 / 256 / 256) ((((List.replicate 8 0).set 7 (u % 256)).set 6 (u / 256 % 256)).set 5 (u / 256 / 256 % 256)) 4 (by omega) (by omega) (by omega) (by simp)
  have e3 := step (m + 4) (u / 256 / 256 / 256 / 256) (((((List.replicate 8 0).set 7 (u % 256)).set 6 (u / 256 % 256)).set 5 (u / 256 / 256 % 256)).set 4 (u / 256 / 256 / 256 % 256)) 3 (by omega) (by omega) (by omega) (by simp)
  have e2 := step (m + 3) (u / 256 / 256 / 256 / 256 / 256) ((((((List.replicate 8 0).set 7 (u % 256)).set 6 (u / 256 % 256)).set 5 (u / 256 / 256 % 256)).set 4 (u / 256 / 256 / 256 % 256)).set 3 (u / 256 / 256 / 256 / 256 % 256)) 2 (by omega) (by omega) (by omega) (by simp)
  have e1 := step (m + 2) (u / 256 / 256 / 256 / 256 / 256 / 256) (((((((List.replicate 8 0).set 7 (u % 256)).set 6 (u / 256 % 256)).set 5 (u / 256 / 256 % 256)).set 4 (u / 256 / 256 / 256 % 256)).set 3 (u / 256 / 256 / 256 / 256 % 256)).set 2 (u / 256 / 256 / 256 / 256 / 256 % 256)) 1 (by omega) (by omega) (by omega) (by simp)
  have e0 := step (m + 1) (u / 256 / 256 / 256 / 256 / 256 / 256 / 256) ((((((((List.replicate 8 0).set 7 (u % 256)).set 6 (u / 256 % 256)).set 5 (u / 256 / 256 % 256)).set 4 (u / 256 / 256 / 256 % 256)).set 3 (u / 256 / 256 / 256 / 256 % 256)).set 2 (u / 256 / 256 / 256 / 256 / 256 % 256)).set 1 (u / 256 / 256 / 256 / 256 / 256 / 256 % 256)) 0 (by omega) (by omega) (by omega) (by simp)
  have n7 : wrap64 (((7 : Nat) : Int) - 1) = ((6 : Nat) : Int) := by unfold wrap64; omega
  have n6 : wrap64 (((6 : Nat) : Int) - 1) = ((5 : Nat) : Int) := by unfold wrap64; omega
  have n5 : wrap64 (((5 : Nat) : Int) - 1) = ((4 : Nat) : Int) := by unfold wrap64; omega
  have n4 : wrap64 (((4 : Nat) : Int) - 1) = ((3 : Nat) : Int) := by unfold wrap64; omega
  have n3 : wrap64 (((3 : Nat) : Int) - 1) = ((2 : Nat) : Int) := by unfold wrap64; omega
  have n2 : wrap64 (((2 : Nat) : Int) - 1) = ((1 : Nat) : Int) := by unfold wrap64; omega
  have n1 : wrap64 (((1 : Nat) : Int) - 1) = ((0 : Nat) : Int) := by unfold wrap64; omega
  have n0 : wrap64 (((0 : Nat) : Int) - 1) = -1 := by unfold wrap64; omega
  rw [n7] at e7
  rw [n6] at e6
  rw [n5] at e5
  rw [n4] at e4
  rw [n3] at e3
  rw [n2] at e2
  rw [n1] at e1
  rw [n0] at e0
  show tidelineref03_high.l0 (m + 8 + 1) u (List.replicate 8 0) ((7 : Nat) : Int) = _
  rw [e7, e6, e5, e4, e3, e2, e1, e0]
  simp only [tidelineref03_high.l0]
  rw [if_neg (by omega)]
  simp only [List.replicate, List.set, List.map, Option.some.injEq, List.cons.injEq]
  refine ⟨by omega, by omega, by omega, by omega, by omega, by omega, by omega, by omega, trivial⟩
theorem u8wrap (m : Int) (h0 : 0 ≤ m) (h1 : m ≤ 255) : m % 256 = m := by omega
theorem bt_rd (s : ByteArray) (i : Nat) : bt s i = rd (bytesOf s) i := (rd_bytesOf s i).symm
theorem one_l0 (x : S39) (hs : x.f2.size ≤ 70368744177664) : ∀ (d k i : Nat) (out : List Int), i + d = x.f2.size → d < k → out.length + 2 * d ≤ 140737488355320 →
    tidelineref03_One.l0 k out i x.f0 x.f1 x.f2 = some (out ++ esc ((bytesOf x.f2).drop i) ++ [0, 1]) := by
  intro d
  induction d with
  | zero =>
    intro k i out hi hk ho
    obtain ⟨k, rfl⟩ : ∃ m, k = m + 1 := ⟨k - 1, by omega⟩
    simp only [tidelineref03_One.l0]
    rw [if_neg (by omega), List.drop_eq_nil_of_le (by rw [bytesOf_length]; omega)]
    simp only [Option.bind_some, List.length_cons, List.length_nil, esc, List.append_nil]
    rw [if_pos (by omega)]
  | succ d ih =>
    intro k i out hi hk ho
    obtain ⟨k, rfl⟩ : ∃ m, k = m + 1 := ⟨k - 1, by omega⟩
    have hlt : i < (bytesOf x.f2).length := by rw [bytesOf_length]; omega
    have eg : rd (bytesOf x.f2) i = (bytesOf x.f2)[i] := by simp [rd, List.getD_eq_getElem?_getD, List.getElem?_eq_getElem hlt]
    simp only [tidelineref03_One.l0]
    rw [if_pos (by omega), if_pos (by omega), if_pos (by omega)]
    simp only [Option.bind_some]
    rw [bt_rd, List.drop_eq_getElem_cons hlt, ← eg]
    by_cases h : rd (bytesOf x.f2) i = 0
    · rw [if_pos h, if_pos (by rw [List.length_append, List.length_singleton]; omega), w64s i (by omega), ih k (i + 1) _ (by omega) (by omega) (by simp only [List.length_append, List.length_singleton]; omega)]
      simp only [esc, h]
      simp
    · rw [if_neg h, w64s i (by omega), ih k (i + 1) _ (by omega) (by omega) (by simp only [List.length_append, List.length_singleton]; omega)]
      simp only [esc, if_neg h]
      simp
theorem refOne (x : S39) (hv : okVal x) (hm : mayB x = true) (hs : x.f2.size ≤ 70368744170000) (k : Nat) (hk : x.f2.size + 10 ≤ k) : tidelineref03_One.f k x.f0 x.f1 x.f2 = some (encV x) := by
  unfold tidelineref03_One.f encV
  obtain ⟨_, ⟨h1, h2⟩, _⟩ := hv
  simp only [Option.bind_some]
  rcases may_kind hm with h | h | h | h
  · rw [h]; simp
  · rw [h]; simp
  · rw [h]
    have e : IntKind.u64.wrap (IntKind.u64.wrap x.f1 + 9223372036854775808) = x.f1 + 9223372036854775808 := by
      show (x.f1 % 18446744073709551616 + 9223372036854775808) % 18446744073709551616 = _
      omega
    rw [e, high_eq _ (by omega) (by omega) k (by omega)]
    simp [be8]
  · rw [h]
    have := one_l0 x (by omega) x.f2.size k 0 [4] (by omega) (by omega) (by simp; omega)
    rw [h] at this
    simp only [List.drop_zero] at this
    rw [if_neg (by omega), if_neg (by omega), if_pos rfl, if_neg (by omega), if_neg (by omega), if_neg (by omega)]
    rw [show ((3 : Int) + 1) % 256 = 4 from rfl]
    simpa using this

/-! Append -/
theorem append_l0 (l : List S39) (hl : l.length < 1000000) (hv : ∀ x ∈ l, okVal x) (hs : ∀ j, j < l.length → (rd_T39 l j).f2.size ≤ 300) : ∀ (d k i : Nat) (out : List Int), i + d = l.length → d + 320 < k → out.length + (encR (l.drop i)).length ≤ 70368744177664 →
    tidelineref03_Append.l0 k l out i = some (if (l.drop i).all mayB then (out ++ encR (l.drop i), 0) else ([], 1)) := by
  intro d
  induction d with
  | zero =>
    intro k i out hi hk ho
    obtain ⟨k, rfl⟩ : ∃ m, k = m + 1 := ⟨k - 1, by omega⟩
    simp only [tidelineref03_Append.l0]
    rw [if_neg (by omega), List.drop_eq_nil_of_le (by omega)]
    simp [encR]
  | succ d ih =>
    intro k i out hi hk ho
    obtain ⟨k, rfl⟩ : ∃ m, k = m + 1 := ⟨k - 1, by omega⟩
    have hlt : i < l.length := by omega
    have hd : l.drop i = rd_T39 l i :: l.drop (i + 1) := by rw [List.drop_eq_getElem_cons hlt, ← rdT_get hlt]
    have he : encR (l.drop i) = encV (rd_T39 l i) ++ encR (l.drop (i + 1)) := by rw [hd]; rfl
    rw [he, List.length_append] at ho
    simp only [tidelineref03_Append.l0]
    rw [if_pos (by omega), if_pos (by omega), refMay (hv _ (rdT_mem hlt)).1.1]
    simp only [Option.bind_some]
    by_cases h : mayB (rd_T39 l i) = true
    · have hsz := hs i hlt
      rw [if_pos h, refOne _ (hv _ (rdT_mem hlt)) h (by omega) k (by omega)]
      simp only [Option.bind_some]
      rw [if_pos (by omega), w64s i (by omega), ih k (i + 1) _ (by omega) (by omega) (by rw [List.length_append]; omega), hd, List.all_cons, h, Bool.true_and]
      have : encR (rd_T39 l i :: l.drop (i + 1)) = encV (rd_T39 l i) ++ encR (l.drop (i + 1)) := rfl
      rw [this, List.append_assoc]
    · rw [if_neg h]
      simp only [Bool.not_eq_true] at h
      rw [hd, List.all_cons, h]
      simp
theorem refAppend (b : List Int) (l : List S39) (hl : l.length < 1000000) (hv : ∀ x ∈ l, okVal x) (hs : ∀ j, j < l.length → (rd_T39 l j).f2.size ≤ 300) (hb : b.length + (encR l).length ≤ 70368744177664) :
    tidelineref03_Append.f (l.length + 322) b l = some (if l.all mayB then (b ++ encR l, 0) else ([], 1)) := by
  unfold tidelineref03_Append.f
  simp only [Option.bind_some, List.length_nil, List.nil_append]
  rw [if_pos (by omega)]
  exact append_l0 l hl hv hs l.length (l.length + 322) 0 b (by omega) (by omega) (by rw [List.drop_zero]; exact hb)

/-! Same -/
theorem ext39 {x y : S39} (h0 : x.f0 = y.f0) (h1 : x.f1 = y.f1) (h2 : x.f2.toList = y.f2.toList) : x = y := by
  obtain ⟨a, b, c⟩ := x
  obtain ⟨a', b', c'⟩ := y
  dsimp only at *
  rw [ByteArray.toList_eq, ByteArray.toList_eq] at h2
  have := WideShapes.bytes_inj h2
  subst h0 h1 this
  rfl
theorem ne39 (x y : S39) : (!(x.f0 == y.f0) || (!(x.f1 == y.f1) || (!(x.f2.toList == y.f2.toList)))) = true ↔ x ≠ y := by
  simp only [Bool.or_eq_true, Bool.not_eq_true', beq_eq_false_iff_ne]
  constructor
  · rintro h rfl
    rcases h with h | h | h <;> exact h rfl
  · intro h
    by_cases h0 : x.f0 = y.f0
    · by_cases h1 : x.f1 = y.f1
      · by_cases h2 : x.f2.toList = y.f2.toList
        · exact absurd (ext39 h0 h1 h2) h
        · exact .inr (.inr h2)
      · exact .inr (.inl h1)
    · exact .inl h0
theorem same_l0 (a b : List S39) (hl : a.length = b.length) (hm : a.length ≤ maxLen) : ∀ (d k i : Nat), i + d = a.length → d < k → ∃ r, tidelineref03_Same.l0 k a b i = some r ∧ (r = true ↔ a.drop i = b.drop i) := by
  unfold maxLen at hm
  intro d
  induction d with
  | zero =>
    intro k i hi hk
    obtain ⟨k, rfl⟩ : ∃ m, k = m + 1 := ⟨k - 1, by omega⟩
    simp only [tidelineref03_Same.l0]
    rw [if_neg (by omega)]
    exact ⟨true, rfl, by rw [List.drop_eq_nil_of_le (by omega), List.drop_eq_nil_of_le (by omega)]; simp⟩
  | succ d ih =>
    intro k i hi hk
    obtain ⟨k, rfl⟩ : ∃ m, k = m + 1 := ⟨k - 1, by omega⟩
    have ha : i < a.length := by omega
    have hb : i < b.length := by omega
    simp only [tidelineref03_Same.l0]
    rw [if_pos (by omega), if_pos (by omega), if_pos (by omega), List.drop_eq_getElem_cons ha, List.drop_eq_getElem_cons hb, ← rdT_get ha, ← rdT_get hb]
    by_cases h : rd_T39 a i = rd_T39 b i
    · obtain ⟨r, hr, hp⟩ := ih k (i + 1) (by omega) (by omega)
      refine ⟨r, ?_, ?_⟩
      · rw [if_neg (fun hc => (ne39 _ _).1 hc h), w64s i (by omega)]
        exact hr
      · rw [hp, h]
        simp
    · refine ⟨false, by rw [if_pos ((ne39 _ _).2 h)], ?_⟩
      simp [h]
theorem refSame (a b : List S39) (hm : a.length ≤ maxLen) : ∃ r, tidelineref03_Same.f (a.length + 1) a b = some r ∧ (r = true ↔ a = b) := by
  unfold tidelineref03_Same.f
  by_cases h : a.length = b.length
  · obtain ⟨r, hr, hp⟩ := same_l0 a b h hm a.length (a.length + 1) 0 (by omega) (by omega)
    exact ⟨r, by rw [if_pos (by omega)]; exact hr, by simpa using hp⟩
  · refine ⟨false, by rw [if_neg (by omega)], ?_⟩
    constructor
    · intro hc; cases hc
    · rintro rfl; exact absurd rfl h
theorem refSame_self (a : List S39) (hm : a.length ≤ maxLen) : tidelineref03_Same.f (a.length + 1) a a = some true := by
  obtain ⟨r, hr, hp⟩ := refSame a a hm
  rw [hr, hp.2 rfl]
theorem keys_true : tidelinelaw03_keys.f = some true := by decide +kernel
end Go.Proofs.Ytlmcefhpnfoahaa.P
