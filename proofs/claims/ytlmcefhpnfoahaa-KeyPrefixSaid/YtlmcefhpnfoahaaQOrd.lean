/- The order of rows by their keys' bytes, in plain Lean. No condition. -/
import Derived.Test.YtlmcefhpnfoahaaV5
import Derived.Test.YtlmcefhpnfoahaaPf35
namespace Go.Proofs.Ytlmcefhpnfoahaa.P
open Go.RowKit Go.Proofs.YtlmcefhpnfoahaaW.PrintWords Go.Proofs.YtlmcefhpnfoahaaW.PrintLast Go.Proofs.YtlmcefhpnfoahaaW.PrintMore
set_option linter.unusedVariables false
set_option linter.unusedSimpArgs false

/-- Less, byte for byte. -/
def lx : List Int → List Int → Bool
  | _, [] => false
  | [], _ :: _ => true
  | a :: x, b :: y => decide (a < b) || (decide (a = b) && lx x y)
theorem lx_nil (l : List Int) : lx l [] = false := by cases l <;> rfl
theorem lx_pre : ∀ (p r s : List Int), lx (p ++ r) (p ++ s) = lx r s := by
  intro p
  induction p with
  | nil => intro r s; rfl
  | cons c t ih => intro r s; simp [lx, ih]
def u8s (l : List Int) : List UInt8 := l.map fun n => UInt8.ofNat n.toNat
theorem strOfNums_u8s (l : List Int) : (strOfNums l).toList = u8s l := by
  rw [ByteArray.toList_eq]
  rfl
theorem lx_bytes : ∀ (a b : List Int), (∀ x ∈ a, isByte x = true) → (∀ x ∈ b, isByte x = true) → Op.bytesLess (u8s a) (u8s b) = lx a b := by
  intro a
  induction a with
  | nil =>
    intro b _ _
    cases b <;> rfl
  | cons c t ih =>
    intro b ha hb
    rcases b with _ | ⟨d, u⟩
    · rfl
    · have hc := ha c (by simp)
      have hd := hb d (by simp)
      simp only [isByte, Bool.and_eq_true, decide_eq_true_eq] at hc hd
      have h1 := ih u (fun x hx => ha x (by simp [hx])) (fun x hx => hb x (by simp [hx]))
      show (decide (UInt8.ofNat c.toNat < UInt8.ofNat d.toNat) || (UInt8.ofNat c.toNat == UInt8.ofNat d.toNat && Op.bytesLess (u8s t) (u8s u))) = _
      rw [h1]
      have e1 : (UInt8.ofNat c.toNat < UInt8.ofNat d.toNat) ↔ c < d := by
        rw [UInt8.lt_iff_toNat_lt, UInt8.toNat_ofNat', UInt8.toNat_ofNat']
        omega
      have e2 : (UInt8.ofNat c.toNat == UInt8.ofNat d.toNat) = decide (c = d) := by
        rw [Bool.eq_iff_iff, beq_iff_eq, decide_eq_true_eq, ← UInt8.toNat_inj, UInt8.toNat_ofNat', UInt8.toNat_ofNat']
        omega
      rw [e2]
      simp only [lx, e1]
theorem lx_strs (a b : List Int) (ha : ∀ x ∈ a, isByte x = true) (hb : ∀ x ∈ b, isByte x = true) : Op.bytesLess (strOfNums a).toList (strOfNums b).toList = lx a b := by
  rw [strOfNums_u8s, strOfNums_u8s, lx_bytes a b ha hb]
theorem lx_texts (s t : ByteArray) : Op.bytesLess s.toList t.toList = lx (bytesOf s) (bytesOf t) := by
  rw [← lx_strs _ _ (bytesOf_isByte s) (bytesOf_isByte t), strOfNums_bytesOf, strOfNums_bytesOf]
theorem num256_from : ∀ (t : List Int) (u : Int), t.foldl (fun u c => u * 256 + c) u = u * 256 ^ t.length + num256 t := by
  intro t
  induction t with
  | nil => intro u; simp [num256]
  | cons c t ih =>
    intro u
    have h1 := ih (u * 256 + c)
    have h2 := ih (0 * 256 + c)
    unfold num256
    simp only [List.foldl_cons, List.length_cons]
    rw [h1, h2, Int.pow_succ]
    simp only [Int.add_mul, Int.mul_assoc, Int.mul_comm 256, Int.zero_mul]
    omega
theorem num256_cons (c : Int) (t : List Int) : num256 (c :: t) = c * 256 ^ t.length + num256 t := by
  have := num256_from t (0 * 256 + c)
  rw [show num256 (c :: t) = t.foldl (fun u c => u * 256 + c) (0 * 256 + c) from rfl, this]
  simp
theorem lx_num : ∀ (a b r s : List Int), a.length = b.length → (∀ x ∈ a, isByte x = true) → (∀ x ∈ b, isByte x = true) → a ≠ b → lx (a ++ r) (b ++ s) = decide (num256 a < num256 b) := by
  intro a
  induction a with
  | nil =>
    intro b r s hl _ _ hn
    exact absurd (List.eq_nil_of_length_eq_zero hl.symm).symm hn
  | cons c t ih =>
    intro b r s hl ha hb hn
    rcases b with _ | ⟨d, u⟩
    · simp at hl
    · simp only [List.length_cons, Nat.add_right_cancel_iff] at hl
      have hat : ∀ x ∈ t, isByte x = true := fun x hx => ha x (by simp [hx])
      have hbt : ∀ x ∈ u, isByte x = true := fun x hx => hb x (by simp [hx])
      have n1 := num256_lt t hat t.length (Nat.le_refl _)
      have n2 := num256_lt u hbt u.length (Nat.le_refl _)
      rw [List.take_length] at n1 n2
      rw [← hl] at n2
      rw [num256_cons, num256_cons, ← hl]
      show (decide (c < d) || (decide (c = d) && lx (t ++ r) (u ++ s))) = _
      generalize hP : (256 : Int) ^ t.length = P at n1 n2 ⊢
      by_cases hcd : c = d
      · subst hcd
        rw [ih u r s hl hat hbt (fun e => hn (by rw [e]))]
        simp
      · rw [decide_eq_false hcd]
        simp only [Bool.false_and, Bool.or_false]
        rw [decide_eq_decide]
        constructor
        · intro h
          have : (c + 1) * P ≤ d * P := Int.mul_le_mul_of_nonneg_right (by omega) (by omega)
          rw [Int.add_mul] at this
          omega
        · intro h
          by_cases h2 : d < c
          · have : (d + 1) * P ≤ c * P := Int.mul_le_mul_of_nonneg_right (by omega) (by omega)
            rw [Int.add_mul] at this
            omega
          · omega
theorem lx_esc (r s : List Int) : ∀ (a b : List Int), (∀ x ∈ a, isByte x = true) → (∀ x ∈ b, isByte x = true) → a ≠ b → lx (esc a ++ 0 :: 1 :: r) (esc b ++ 0 :: 1 :: s) = lx a b := by
  intro a
  induction a with
  | nil =>
    intro b _ hb hn
    rcases b with _ | ⟨d, u⟩
    · exact absurd rfl hn
    · have hd := hb d (by simp)
      simp only [isByte, Bool.and_eq_true, decide_eq_true_eq] at hd
      by_cases h0 : d = 0
      · subst h0
        simp [esc, lx]
      · have : (0 : Int) < d := by omega
        simp [esc, lx, h0, this]
  | cons c t ih =>
    intro b ha hb hn
    have hc := ha c (by simp)
    simp only [isByte, Bool.and_eq_true, decide_eq_true_eq] at hc
    rcases b with _ | ⟨d, u⟩
    · by_cases h0 : c = 0
      · subst h0
        simp [esc, lx]
      · have : ¬ c < 0 := by omega
        simp [esc, lx, h0, this]
    · have hd := hb d (by simp)
      simp only [isByte, Bool.and_eq_true, decide_eq_true_eq] at hd
      have hat : ∀ x ∈ t, isByte x = true := fun x hx => ha x (by simp [hx])
      have hbt : ∀ x ∈ u, isByte x = true := fun x hx => hb x (by simp [hx])
      by_cases hcd : c = d
      · subst hcd
        have htu : t ≠ u := fun e => hn (by rw [e])
        have := ih u hat hbt htu
        by_cases h0 : c = 0
        · subst h0
          simp [esc, lx, this]
        · simp [esc, lx, h0, this]
      · by_cases h0 : c = 0
        · subst h0
          have h1 : ¬ d = 0 := fun e => hcd e.symm
          have h2 : (0 : Int) < d := by omega
          simp [esc, lx, h1, h2]
        · by_cases h1 : d = 0
          · subst h1
            have h2 : ¬ c < 0 := by omega
            simp [esc, lx, h0, h2]
          · simp [esc, lx, h0, h1, hcd]
/-- Less, value by value. -/
def lessV (x y : S39) : Bool := if x.f0 = y.f0 then (if x.f0 = 3 then Op.bytesLess x.f2.toList y.f2.toList else decide (x.f1 < y.f1)) else decide (x.f0 < y.f0)
theorem refLess (x y : S39) : tidelineref03_Less.f x.f0 x.f1 x.f2 y.f0 y.f1 y.f2 = some (lessV x y) := by
  unfold tidelineref03_Less.f lessV
  split
  · split <;> rfl
  · rfl
theorem encV_head (x : S39) (hm : mayB x = true) : ∃ t, encV x = (x.f0 + 1) :: t := by
  obtain ⟨x0, x1, x2⟩ := x
  simp only [mayB, Bool.or_eq_true, Bool.and_eq_true, beq_iff_eq] at hm
  rcases hm with ((⟨⟨rfl, rfl⟩, h⟩ | ⟨⟨rfl, h1⟩, h⟩) | ⟨rfl, h⟩) | ⟨rfl, rfl⟩ <;> exact ⟨_, rfl⟩
theorem lx_encV (x y : S39) (hx : mayB x = true) (hy : mayB y = true) (nx : okNum x = true) (ny : okNum y = true) (hn : x ≠ y) (r s : List Int) : lx (encV x ++ r) (encV y ++ s) = lessV x y := by
  by_cases h0 : x.f0 = y.f0
  · obtain ⟨x0, x1, x2⟩ := x
    obtain ⟨y0, y1, y2⟩ := y
    simp only at h0
    subst h0
    simp only [okNum, Bool.and_eq_true, decide_eq_true_eq] at nx ny
    simp only [mayB, Bool.or_eq_true, Bool.and_eq_true, beq_iff_eq] at hx hy
    rcases hx with ((⟨⟨rfl, rfl⟩, h⟩ | ⟨⟨rfl, h1⟩, h⟩) | ⟨rfl, h⟩) | ⟨rfl, rfl⟩
    · rcases hy with ((⟨⟨g0, rfl⟩, g⟩ | ⟨⟨g0, g1⟩, g⟩) | ⟨g0, g⟩) | ⟨g0, rfl⟩ <;> try (exact absurd g0 (by decide))
      rw [empty_of _ h, empty_of _ g] at hn
      exact absurd rfl hn
    · rcases hy with ((⟨⟨g0, rfl⟩, g⟩ | ⟨⟨g0, g1⟩, g⟩) | ⟨g0, g⟩) | ⟨g0, rfl⟩ <;> try (exact absurd g0 (by decide))
      obtain rfl := empty_of _ h
      obtain rfl := empty_of _ g
      rcases h1 with rfl | rfl <;> rcases g1 with rfl | rfl <;> first | exact absurd rfl hn | rfl
    · rcases hy with ((⟨⟨g0, rfl⟩, g⟩ | ⟨⟨g0, g1⟩, g⟩) | ⟨g0, g⟩) | ⟨g0, rfl⟩ <;> try (exact absurd g0 (by decide))
      obtain rfl := empty_of _ h
      obtain rfl := empty_of _ g
      have hne : x1 ≠ y1 := fun e => hn (by rw [e])
      show lx (3 :: be8 x1 ++ r) (3 :: be8 y1 ++ s) = decide (x1 < y1)
      have e : lx (3 :: be8 x1 ++ r) (3 :: be8 y1 ++ s) = lx (be8 x1 ++ r) (be8 y1 ++ s) := by simp [lx]
      have v1 : num256 (be8 x1) = x1 + 9223372036854775808 := num256_be8 _ (by omega) (by omega)
      have v2 : num256 (be8 y1) = y1 + 9223372036854775808 := num256_be8 _ (by omega) (by omega)
      have hb : ∀ n : Int, ∀ c ∈ be8 n, isByte c = true := by
        intro n c h
        unfold be8 at h
        obtain ⟨j, _, rfl⟩ := List.mem_map.mp h
        simp only [isByte, Bool.and_eq_true, decide_eq_true_eq]
        omega
      rw [e, lx_num (be8 x1) (be8 y1) _ _ ((be8_length x1).trans (be8_length y1).symm) (hb x1) (hb y1) (fun e => hne (by rw [e] at v1; omega)), v1, v2, decide_eq_decide]
      omega
    · rcases hy with ((⟨⟨g0, rfl⟩, g⟩ | ⟨⟨g0, g1⟩, g⟩) | ⟨g0, g⟩) | ⟨g0, rfl⟩ <;> try (exact absurd g0 (by decide))
      show lx (4 :: (esc (bytesOf x2) ++ [0, 1]) ++ r) (4 :: (esc (bytesOf y2) ++ [0, 1]) ++ s) = Op.bytesLess x2.toList y2.toList
      have hne : bytesOf x2 ≠ bytesOf y2 := fun e => hn (by rw [← strOfNums_bytesOf x2, e, strOfNums_bytesOf])
      rw [lx_texts, ← lx_esc r s _ _ (bytesOf_isByte x2) (bytesOf_isByte y2) hne]
      simp [lx]
  · obtain ⟨t, ht⟩ := encV_head x hx
    obtain ⟨u, hu⟩ := encV_head y hy
    rw [ht, hu]
    unfold lessV
    rw [if_neg h0]
    have e1 : ¬ x.f0 + 1 = y.f0 + 1 := by omega
    have e2 : (x.f0 + 1 < y.f0 + 1) ↔ (x.f0 < y.f0) := by omega
    simp [lx, e1, e2, h0]
theorem rows_l0 (a b : List S39) (ha : a.length ≤ 1000000) (hb : b.length ≤ 1000000) (ma : a.all mayB = true) (mb : b.all mayB = true) (na : a.all okNum = true) (nb : b.all okNum = true) :
    ∀ (d k i : Nat), i + d = a.length → 2 * d + 2 ≤ k → tidelineref03_Rows.l0 k a b i = some (lx (encR (a.drop i)) (encR (b.drop i))) := by
  rw [List.all_eq_true] at ma mb na nb
  have hcons : ∀ (l : List S39) (i : Nat) (h : i < l.length), encR (l.drop i) = encV (rd_T39 l i) ++ encR (l.drop (i + 1)) := by
    intro l i h
    rw [List.drop_eq_getElem_cons h, rdT_get h]
    rfl
  intro d
  induction d with
  | zero =>
    intro k i hi hk
    obtain ⟨k, rfl⟩ : ∃ j, k = j + 2 := ⟨k - 2, by omega⟩
    unfold tidelineref03_Rows.l0
    (try dsimp only)
    rw [if_neg (by omega)]
    unfold tidelineref03_Rows.j1
    (try dsimp only)
    rw [if_neg (by decide), List.drop_of_length_le (by omega : a.length ≤ i)]
    congr 1
    by_cases h : i < b.length
    · rw [hcons b i h]
      obtain ⟨t, ht⟩ := encV_head _ (mb _ (rdT_mem h))
      rw [ht, decide_eq_true (by omega)]
      rfl
    · rw [List.drop_of_length_le (by omega : b.length ≤ i), decide_eq_false (by omega)]
      rfl
  | succ d ih =>
    intro k i hi hk
    obtain ⟨k, rfl⟩ : ∃ j, k = j + 2 := ⟨k - 2, by omega⟩
    have hia : i < a.length := by omega
    unfold tidelineref03_Rows.l0
    (try dsimp only)
    rw [if_pos (by omega)]
    by_cases h : i < b.length
    · rw [decide_eq_true (by omega : (i : Int) < (b.length : Int))]
      unfold tidelineref03_Rows.j1
      (try dsimp only)
      rw [if_pos rfl, if_pos (by omega), if_pos (by omega), if_pos (by omega), hcons a i hia, hcons b i h]
      by_cases hne : rd_T39 a i = rd_T39 b i
      · rw [if_neg (by rw [ne39]; exact fun e => e hne), w64s i (by omega), ih k (i + 1) (by omega) (by omega), hne, lx_pre]
      · rw [if_pos (by rw [ne39]; exact hne), refLess, lx_encV _ _ (ma _ (rdT_mem hia)) (mb _ (rdT_mem h)) (na _ (rdT_mem hia)) (nb _ (rdT_mem h)) hne]
        rfl
    · rw [decide_eq_false (by omega : ¬ (i : Int) < (b.length : Int))]
      unfold tidelineref03_Rows.j1
      (try dsimp only)
      rw [if_neg (by decide), List.drop_of_length_le (by omega : b.length ≤ i), decide_eq_false (by omega)]
      have : encR ([] : List S39) = [] := rfl
      rw [this, lx_nil]
theorem refRows (a b : List S39) (ha : a.length ≤ 1000000) (hb : b.length ≤ 1000000) (ma : a.all mayB = true) (mb : b.all mayB = true) (na : a.all okNum = true) (nb : b.all okNum = true) :
    tidelineref03_Rows.f (2 * a.length + 2) a b = some (lx (encR a) (encR b)) := by
  exact rows_l0 a b ha hb ma mb na nb a.length (2 * a.length + 2) 0 (by omega) (by omega)
theorem encR_inj (a b : List S39) (ma : a.all mayB = true) (mb : b.all mayB = true) (na : a.all okNum = true) (nb : b.all okNum = true) (h : encR a = encR b) : a = b := by
  have h1 := parse_enc a (a.length + b.length + 1) [] (by omega) ma na
  have h2 := parse_enc b (a.length + b.length + 1) [] (by omega) mb nb
  rw [h, h2] at h1
  simpa using h1.symm
end Go.Proofs.Ytlmcefhpnfoahaa.P
