/- What package key computes, as plain functions on lists, and small facts of them. No condition. -/
import Derived.Test.YtlmcefhpnfoahaaP0
import Derived.Laws.BitsAllLaws
namespace Go.Proofs.Ytlmcefhpnfoahaa.P
open Go.RowKit Go.Proofs.YtlmcefhpnfoahaaW.PrintWords Go.Proofs.YtlmcefhpnfoahaaW.PrintLast Go.Proofs.YtlmcefhpnfoahaaW.PrintMore

/-- May a value be? -/
def mayB (x : S39) : Bool :=
  (x.f0 == 0 && x.f1 == 0 && x.f2.toList.isEmpty) || (x.f0 == 1 && (x.f1 == 0 || x.f1 == 1) && x.f2.toList.isEmpty) || (x.f0 == 2 && x.f2.toList.isEmpty) || (x.f0 == 3 && x.f1 == 0)
/-- A number's eight bytes. -/
def be8 (n : Int) : List Int := [56, 48, 40, 32, 24, 16, 8, 0].map fun j : Nat => (n + 9223372036854775808) / 2 ^ j % 256
/-- A text's bytes, ff behind each 0. -/
def esc : List Int → List Int
  | [] => []
  | c :: r => if c = 0 then 0 :: 255 :: esc r else c :: esc r
/-- A value's bytes. -/
def encV (x : S39) : List Int :=
  if x.f0 = 0 then [1] else if x.f0 = 1 then [2, x.f1 % 256] else if x.f0 = 2 then 3 :: be8 x.f1 else 4 :: (esc (bytesOf x.f2) ++ [0, 1])
/-- A row's bytes. -/
def encR (l : List S39) : List Int := l.flatMap encV
/-- Is a value's number one of 64 bits? -/
def okNum (x : S39) : Bool := decide (-9223372036854775808 ≤ x.f1) && decide (x.f1 ≤ 9223372036854775807)
def isByte (c : Int) : Bool := decide (0 ≤ c) && decide (c ≤ 255)
def key_Append.f (l0 : List Int) (l1 : List S39) : Option (List Int × Int) :=
  if l0.length + (encR l1).length ≤ 70368744177664 ∧ l1.all okNum = true then some (if l1.all mayB then (l0 ++ encR l1, 0) else ([], 1)) else none

theorem be8_length (n : Int) : (be8 n).length = 8 := rfl
theorem esc_append (a b : List Int) : esc (a ++ b) = esc a ++ esc b := by
  induction a with
  | nil => rfl
  | cons c r ih => simp only [List.cons_append, esc]; split <;> simp [ih]
theorem esc_ge (l : List Int) : l.length ≤ (esc l).length := by
  induction l with
  | nil => exact Nat.le_refl _
  | cons c r ih => simp only [esc]; split <;> simp <;> omega
theorem esc_take_le (l : List Int) (k : Nat) : (esc (l.take k)).length ≤ (esc l).length := by
  have h : esc l = esc (l.take k) ++ esc (l.drop k) := by rw [← esc_append, List.take_append_drop]
  rw [h, List.length_append]
  omega
theorem esc_snoc (l : List Int) (k : Nat) (h : k < l.length) : esc (l.take (k + 1)) = esc (l.take k) ++ (if rd l k = 0 then [rd l k, 255] else [rd l k]) := by
  rw [List.take_succ_eq_append_getElem h, esc_append]
  have e : rd l k = l[k] := by simp [rd, List.getD_eq_getElem?_getD, List.getElem?_eq_getElem h]
  rw [e]
  simp only [esc]
  split
  · rename_i h0; rw [h0]
  · rfl
theorem encR_snoc (l : List S39) (k : Nat) (h : k < l.length) : encR (l.take (k + 1)) = encR (l.take k) ++ encV (rd_T39 l k) := by
  unfold encR
  rw [List.take_succ_eq_append_getElem h, List.flatMap_append]
  simp [rd_T39, List.getD_eq_getElem?_getD, List.getElem?_eq_getElem h]
theorem encR_take_le (l : List S39) (k : Nat) : (encR (l.take k)).length ≤ (encR l).length := by
  have h : encR l = encR (l.take k) ++ encR (l.drop k) := by
    unfold encR
    rw [← List.flatMap_append, List.take_append_drop]
  rw [h, List.length_append]
  omega
theorem be8_take (n : Int) (j : Nat) (h : j < 8) : (be8 n).take (j + 1) = (be8 n).take j ++ [(n + 9223372036854775808) / 2 ^ (56 - 8 * j) % 256] := by
  have : j = 0 ∨ j = 1 ∨ j = 2 ∨ j = 3 ∨ j = 4 ∨ j = 5 ∨ j = 6 ∨ j = 7 := by omega
  rcases this with rfl | rfl | rfl | rfl | rfl | rfl | rfl | rfl <;> rfl
theorem xor_top (n : Int) (h1 : -9223372036854775808 ≤ n) (h2 : n ≤ 9223372036854775807) : bits .xor .u64 (IntKind.u64.wrap n) 9223372036854775808 = n + 9223372036854775808 := by
  have hw : ∀ m : Int, IntKind.u64.wrap m = m % 18446744073709551616 := fun m => rfl
  rw [hw]
  have hx : ∀ a : Nat, a < 9223372036854775808 → a ^^^ 9223372036854775808 = a + 9223372036854775808 := by
    intro a ha
    have e : (9223372036854775808 : Nat) = 2 ^ 63 * 1 := rfl
    have e2 : a = 2 ^ 63 * 0 + a := by omega
    rw [Nat.xor_comm, Nat.add_comm]
    have := Nat.two_pow_add_eq_or_of_lt (i := 63) (b := a) (by simpa using ha) 1
    rw [e, this]
    apply Nat.eq_of_testBit_eq
    intro i
    simp only [Nat.testBit_xor, Nat.testBit_or]
    by_cases hi : i = 63
    · subst hi
      have : a.testBit 63 = false := Nat.testBit_lt_two_pow (by simpa using ha)
      rw [this]
      simp
    · have : (2 ^ 63 * 1).testBit i = false := by
        rw [Nat.mul_one, Nat.testBit_two_pow]
        simp; omega
      rw [this]
      simp
  by_cases h0 : 0 ≤ n
  · have e : n % 18446744073709551616 = n := by omega
    rw [e, u64_xor n _ h0 (by omega) (by omega) (by omega)]
    have := hx n.toNat (by omega)
    have e9 : (9223372036854775808 : Int).toNat = 9223372036854775808 := rfl
    rw [e9, this]
    omega
  · have e : n % 18446744073709551616 = n + 18446744073709551616 := by omega
    rw [e, u64_xor _ _ (by omega) (by omega) (by omega) (by omega)]
    have e9 : (9223372036854775808 : Int).toNat = 9223372036854775808 := rfl
    rw [e9]
    have hb := hx (n + 9223372036854775808).toNat (by omega)
    have e3 : (n + 18446744073709551616).toNat = (n + 9223372036854775808).toNat ^^^ 9223372036854775808 := by rw [hb]; omega
    rw [e3, Nat.xor_assoc, Nat.xor_self, Nat.xor_zero]
    omega
/-- A number by its bytes, the highest first. -/
def num256 (l : List Int) : Int := l.foldl (fun u c => u * 256 + c) 0
def rdTruth (l : List Int) : S39 × List Int × Int := if l.length = 0 then (z39, [], 20) else if rd l 0 > 1 then (z39, [], 21) else (⟨1, rd l 0, ⟨#[]⟩⟩, l.drop 1, 0)
def rdNum (l : List Int) : S39 × List Int × Int := if l.length < 8 then (z39, [], 20) else (⟨2, num256 (l.take 8) - 9223372036854775808, ⟨#[]⟩⟩, l.drop 8, 0)
/-- A text up to its end: its bytes, what is left, the error. -/
def rdEsc : List Int → List Int → List Int × List Int × Int
  | _, [] => ([], [], 20)
  | s, c :: r => if c = 0 then (match r with
      | [] => ([], [], 20)
      | d :: r' => if d = 1 then (s, r', 0) else if d = 255 then rdEsc (s ++ [0]) r' else ([], [], 21)) else rdEsc (s ++ [c]) r
def rdText (l : List Int) : S39 × List Int × Int := if (rdEsc [] l).2.2 = 0 then (⟨3, 0, strOfNums (rdEsc [] l).1⟩, (rdEsc [] l).2.1, 0) else (z39, [], (rdEsc [] l).2.2)

/-- One value: by its first byte c; what stands behind it. -/
def stepR (c : Int) (r : List Int) : S39 × List Int × Int :=
  if c = 1 then (z39, r, 0) else if c = 2 then rdTruth r else if c = 3 then rdNum r else if c = 4 then rdText r else (z39, [], 21)
def parseF : Nat → List S39 → List Int → List S39 × Int
  | 0, out, _ => (out, 0)
  | k + 1, out, l => if l.length = 0 then (out, 0) else if (stepR (rd l 0) (l.drop 1)).2.2 = 0 then parseF k (out ++ [(stepR (rd l 0) (l.drop 1)).1]) (stepR (rd l 0) (l.drop 1)).2.1 else ([], (stepR (rd l 0) (l.drop 1)).2.2)
def key_Parse.f (l : List Int) : Option (List S39 × Int) :=
  if l.length ≤ 70368744177664 ∧ l.all isByte = true ∧ l.length ≤ 2199023255552 then some (parseF (l.length + 1) [] l) else none
def key_After.f (l : List Int) : Option (List Int) := if l.length ≤ 70368744177664 then some (l ++ [255]) else none
theorem rdEsc_length (n : Nat) : ∀ s l : List Int, l.length ≤ n → (rdEsc s l).2.1.length ≤ l.length := by
  induction n with
  | zero =>
    intro s l h
    obtain rfl : l = [] := List.eq_nil_of_length_eq_zero (by omega)
    unfold rdEsc
    simp
  | succ n ih =>
    intro s l h
    rcases l with _ | ⟨c, _ | ⟨d, r⟩⟩
    · unfold rdEsc; simp
    · unfold rdEsc
      split
      · simp
      · have := ih (s ++ [c]) [] (by simp)
        simp only [List.length_cons] at *
        omega
    · unfold rdEsc
      simp only [List.length_cons] at h
      split
      · dsimp only
        split
        · simp only [List.length_cons]; omega
        · split
          · have := ih (s ++ [0]) r (by omega)
            simp only [List.length_cons]; omega
          · simp
      · have := ih (s ++ [c]) (d :: r) (by simp only [List.length_cons]; omega)
        simp only [List.length_cons] at *
        omega
theorem stepR_length (c : Int) (r : List Int) : (stepR c r).2.1.length ≤ r.length := by
  unfold stepR
  split
  · exact Nat.le_refl _
  · split
    · unfold rdTruth
      split
      · simp
      · split
        · simp
        · simp
    · split
      · unfold rdNum
        split
        · simp
        · simp
      · split
        · unfold rdText
          split
          · exact rdEsc_length _ _ _ (Nat.le_refl _)
          · simp
        · simp
theorem rdEsc_bytes (n : Nat) : ∀ s l : List Int, l.length ≤ n → (∀ x ∈ l, isByte x = true) → ∀ x ∈ (rdEsc s l).2.1, isByte x = true := by
  induction n with
  | zero =>
    intro s l h
    obtain rfl : l = [] := List.eq_nil_of_length_eq_zero (by omega)
    unfold rdEsc
    simp
  | succ n ih =>
    intro s l h hb
    rcases l with _ | ⟨c, _ | ⟨d, r⟩⟩
    · unfold rdEsc; simp
    · unfold rdEsc
      split
      · simp
      · exact ih (s ++ [c]) [] (by simp) (by simp)
    · unfold rdEsc
      simp only [List.length_cons] at h
      split
      · dsimp only
        split
        · exact fun x hx => hb x (List.mem_cons_of_mem _ (List.mem_cons_of_mem _ hx))
        · split
          · exact ih (s ++ [0]) r (by omega) (fun x hx => hb x (List.mem_cons_of_mem _ (List.mem_cons_of_mem _ hx)))
          · simp
      · exact ih (s ++ [c]) (d :: r) (by simp only [List.length_cons]; omega) (fun x hx => hb x (List.mem_cons_of_mem _ hx))
theorem stepR_bytes (c : Int) (r : List Int) (hb : ∀ x ∈ r, isByte x = true) : ∀ x ∈ (stepR c r).2.1, isByte x = true := by
  unfold stepR
  split
  · exact hb
  · split
    · unfold rdTruth
      split
      · simp
      · split
        · simp
        · exact fun x hx => hb x (List.mem_of_mem_drop hx)
    · split
      · unfold rdNum
        split
        · simp
        · exact fun x hx => hb x (List.mem_of_mem_drop hx)
      · split
        · unfold rdText
          split
          · exact rdEsc_bytes _ _ _ (Nat.le_refl _) hb
          · simp
        · simp
theorem rd_isByte {l : List Int} (hb : ∀ x ∈ l, isByte x = true) (i : Nat) (h : i < l.length) : 0 ≤ rd l i ∧ rd l i ≤ 255 := by
  have e : rd l i = l[i] := by simp [rd, List.getD_eq_getElem?_getD, List.getElem?_eq_getElem h]
  rw [e]
  have := hb _ (List.getElem_mem h)
  unfold isByte at this
  simpa using this
theorem num256_snoc (l : List Int) (k : Nat) (h : k < l.length) : num256 (l.take (k + 1)) = num256 (l.take k) * 256 + rd l k := by
  have e : rd l k = l[k] := by simp [rd, List.getD_eq_getElem?_getD, List.getElem?_eq_getElem h]
  rw [e]
  unfold num256
  rw [List.take_succ_eq_append_getElem h, List.foldl_append]
  rfl
theorem num256_lt (l : List Int) (hb : ∀ x ∈ l, isByte x = true) (k : Nat) (h : k ≤ l.length) : 0 ≤ num256 (l.take k) ∧ num256 (l.take k) < 256 ^ k := by
  induction k with
  | zero => simp [num256]
  | succ k ih =>
    have := ih (by omega)
    have hr := rd_isByte hb k (by omega)
    rw [num256_snoc l k (by omega), Int.pow_succ]
    omega
theorem or_byte (u c : Int) (h0 : 0 ≤ u) (h1 : u < 72057594037927936) (h2 : 0 ≤ c) (h3 : c ≤ 255) : bits .or .u64 (u * 256) c = u * 256 + c := by
  rw [u64_or _ _ (by omega) (by omega) h2 (by omega)]
  have e : (u * 256).toNat ||| c.toNat = (u * 256).toNat + c.toNat := by
    have e1 : (u * 256).toNat = 2 ^ 8 * u.toNat := by omega
    rw [e1]
    exact (Nat.two_pow_add_eq_or_of_lt (i := 8) (b := c.toNat) (by omega) u.toNat).symm
  rw [e]
  omega
theorem xor_back (u : Int) (h0 : 0 ≤ u) (h1 : u < 18446744073709551616) : wrap64 (bits .xor .u64 u 9223372036854775808) = u - 9223372036854775808 := by
  have hw : ∀ m : Int, IntKind.u64.wrap m = m % 18446744073709551616 := fun m => rfl
  have h := xor_top (u - 9223372036854775808) (by omega) (by omega)
  rw [hw] at h
  have h2 : bits .xor .u64 u 9223372036854775808 = if u < 9223372036854775808 then u + 9223372036854775808 else u - 9223372036854775808 := by
    rw [u64_xor u _ h0 h1 (by omega) (by omega)]
    rw [u64_xor _ _ (by omega) (by omega) (by omega) (by omega)] at h
    have e9 : (9223372036854775808 : Int).toNat = 9223372036854775808 := rfl
    rw [e9] at h ⊢
    have h3 : ((u - 9223372036854775808) % 18446744073709551616).toNat ^^^ 9223372036854775808 = u.toNat := by omega
    rw [← h3, Nat.xor_assoc, Nat.xor_self, Nat.xor_zero]
    split <;> omega
  rw [h2]
  unfold wrap64
  split <;> omega
end Go.Proofs.Ytlmcefhpnfoahaa.P
