/- Package key's two ways are each other's inverse, in plain Lean; and the law KeyBack's own function answers true. No condition. -/
import Derived.Test.YtlmcefhpnfoahaaQParse
import Derived.Test.YtlmcefhpnfoahaaV3
import Derived.Test.YtlmcefhpnfoahaaPf5
namespace Go.Proofs.Ytlmcefhpnfoahaa.P
open Go.RowKit Go.Proofs.YtlmcefhpnfoahaaW.PrintWords Go.Proofs.YtlmcefhpnfoahaaW.PrintLast Go.Proofs.YtlmcefhpnfoahaaW.PrintMore
set_option linter.unusedVariables false
set_option linter.unusedSimpArgs false

theorem rd_cons0 (c : Int) (l : List Int) : rd (c :: l) 0 = c := rfl
theorem rdEsc_esc (r : List Int) : ∀ (l s : List Int), rdEsc s (esc l ++ 0 :: 1 :: r) = (s ++ l, r, 0) := by
  intro l
  induction l with
  | nil => intro s; simp [esc, rdEsc]
  | cons c t ih =>
    intro s
    by_cases h : c = 0
    · subst h
      simp only [esc, if_true, List.cons_append, rdEsc]
      rw [if_neg (by decide), ih]
      simp
    · simp only [esc, if_neg h, List.cons_append]
      rw [rdEsc.eq_def]
      simp only [if_neg h]
      rw [ih]
      simp
theorem num256_be8 (n : Int) (h0 : 0 ≤ n) (h1 : n < 18446744073709551616) : num256 ([56, 48, 40, 32, 24, 16, 8, 0].map fun j : Nat => n / 2 ^ j % 256) = n := by
  simp only [num256, List.map_cons, List.map_nil, List.foldl_cons, List.foldl_nil, Int.reducePow, Int.zero_mul, Int.zero_add, Int.pow_zero, Int.ediv_one]
  omega
theorem bytesOf_strOfNums (l : List Int) (h : ∀ x ∈ l, isByte x = true) : bytesOf (strOfNums l) = l := by
  unfold bytesOf strOfNums
  simp only [List.map_map]
  rw [List.map_congr_left (g := id)]
  · simp
  · intro x hx
    have := h x hx
    simp only [isByte, Bool.and_eq_true, decide_eq_true_eq] at this
    simp only [Function.comp, id]
    rw [UInt8.toNat_ofNat']
    omega
theorem strOfNums_bytesOf (s : ByteArray) : strOfNums (bytesOf s) = s := by
  apply ByteArray.ext
  apply Array.ext'
  simp only [strOfNums, bytesOf, List.map_map]
  rw [List.map_congr_left (g := id)]
  · simp
  · intro x hx
    simp
theorem bytesOf_isByte (s : ByteArray) : ∀ x ∈ bytesOf s, isByte x = true := by
  intro x hx
  simp only [bytesOf, List.mem_map] at hx
  obtain ⟨b, _, rfl⟩ := hx
  have := b.toNat_lt
  simp only [isByte, Bool.and_eq_true, decide_eq_true_eq]
  omega
theorem toList_empty : (⟨#[]⟩ : ByteArray).toList = [] := by decide +kernel
theorem empty_of (s : ByteArray) (h : s.toList.isEmpty = true) : s = ⟨#[]⟩ := by
  have h2 : s.toList = (⟨#[]⟩ : ByteArray).toList := by rw [toList_empty]; exact List.isEmpty_iff.mp h
  have h3 := ext39 (x := ⟨0, 0, s⟩) (y := ⟨0, 0, ⟨#[]⟩⟩) rfl rfl h2
  exact congrArg S39.f2 h3
theorem may0 : mayB z39 = true := by decide +kernel
theorem may1 (n : Int) (h : n = 0 ∨ n = 1) : mayB ⟨1, n, ⟨#[]⟩⟩ = true := by
  rcases h with rfl | rfl <;> decide +kernel
theorem may2 (n : Int) : mayB ⟨2, n, ⟨#[]⟩⟩ = true := by
  simp [mayB, toList_empty]
/-- A value that may be, behind its own bytes. -/
theorem stepR_enc (x : S39) (hm : mayB x = true) (hn : okNum x = true) (r : List Int) : stepR (rd (encV x ++ r) 0) ((encV x ++ r).drop 1) = (x, r, 0) ∧ 0 < (encV x).length := by
  obtain ⟨x0, x1, x2⟩ := x
  simp only [okNum, Bool.and_eq_true, decide_eq_true_eq] at hn
  simp only [mayB, Bool.or_eq_true, Bool.and_eq_true, beq_iff_eq] at hm
  rcases hm with ((⟨⟨rfl, rfl⟩, h⟩ | ⟨⟨rfl, h1⟩, h⟩) | ⟨rfl, h⟩) | ⟨rfl, rfl⟩
  · obtain rfl := empty_of _ h
    exact ⟨rfl, by decide⟩
  · obtain rfl := empty_of _ h
    rcases h1 with rfl | rfl
    · exact ⟨rfl, by decide⟩
    · exact ⟨rfl, by decide⟩
  · obtain rfl := empty_of _ h
    have e : encV ⟨2, x1, ⟨#[]⟩⟩ = 3 :: be8 x1 := rfl
    rw [e]
    refine ⟨?_, by simp⟩
    have e2 : (3 :: be8 x1 ++ r).drop 1 = be8 x1 ++ r := rfl
    rw [e2]
    have e3 : rd (3 :: be8 x1 ++ r) 0 = 3 := rfl
    rw [e3]
    show rdNum (be8 x1 ++ r) = _
    unfold rdNum
    have hl := be8_length x1
    rw [if_neg (by simp; omega), List.take_append_of_le_length (by omega), List.drop_append_of_le_length (by omega)]
    rw [List.take_of_length_le (by omega), List.drop_of_length_le (by omega)]
    have := num256_be8 (x1 + 9223372036854775808) (by omega) (by omega)
    unfold be8
    rw [this]
    simp
  · have e : encV ⟨3, 0, x2⟩ = 4 :: (esc (bytesOf x2) ++ [0, 1]) := rfl
    rw [e]
    refine ⟨?_, by simp⟩
    have e2 : (4 :: (esc (bytesOf x2) ++ [0, 1]) ++ r).drop 1 = esc (bytesOf x2) ++ 0 :: 1 :: r := by simp
    rw [e2]
    have e3 : rd (4 :: (esc (bytesOf x2) ++ [0, 1]) ++ r) 0 = 4 := rfl
    rw [e3]
    show rdText (esc (bytesOf x2) ++ 0 :: 1 :: r) = _
    unfold rdText
    rw [rdEsc_esc]
    simp [strOfNums_bytesOf]
theorem parse_enc : ∀ (l : List S39) (k : Nat) (out : List S39), l.length < k → l.all mayB = true → l.all okNum = true → parseF k out (encR l) = (out ++ l, 0) := by
  intro l
  induction l with
  | nil =>
    intro k out h _ _
    obtain ⟨k, rfl⟩ : ∃ j, k = j + 1 := ⟨k - 1, by simp at h; omega⟩
    unfold parseF
    simp [encR]
  | cons x t ih =>
    intro k out h hm hn
    obtain ⟨k, rfl⟩ : ∃ j, k = j + 1 := ⟨k - 1, by simp at h; omega⟩
    simp only [List.all_cons, Bool.and_eq_true] at hm hn
    have e : encR (x :: t) = encV x ++ encR t := by simp [encR]
    obtain ⟨h1, h2⟩ := stepR_enc x hm.1 hn.1 (encR t)
    unfold parseF
    rw [e, if_neg (by rw [List.length_append]; omega), h1]
    simp only [if_true]
    rw [ih k _ (by simp at h; omega) hm.2 hn.2]
    simp
theorem enc_length : ∀ l : List S39, l.length ≤ (encR l).length := by
  intro l
  induction l with
  | nil => simp
  | cons x t ih =>
    have e : encR (x :: t) = encV x ++ encR t := by simp [encR]
    have : 0 < (encV x).length := by
      unfold encV
      split
      · simp
      · split
        · simp
        · split <;> simp
    rw [e, List.length_append, List.length_cons]
    omega
/-- What a text was read from. -/
theorem esc_rdEsc (n : Nat) : ∀ s l : List Int, l.length ≤ n → (rdEsc s l).2.2 = 0 → ∃ m, (rdEsc s l).1 = s ++ m ∧ l = esc m ++ 0 :: 1 :: (rdEsc s l).2.1 := by
  induction n with
  | zero =>
    intro s l h h0
    obtain rfl : l = [] := List.eq_nil_of_length_eq_zero (by omega)
    simp [rdEsc] at h0
  | succ n ih =>
    intro s l h h0
    rcases l with _ | ⟨c, r⟩
    · simp [rdEsc] at h0
    · by_cases hc : c = 0
      · subst hc
        rcases r with _ | ⟨d, r⟩
        · simp [rdEsc] at h0
        · by_cases h1 : d = 1
          · subst h1
            exact ⟨[], by simp [rdEsc, esc]⟩
          · by_cases h2 : d = 255
            · subst h2
              have e : rdEsc s (0 :: 255 :: r) = rdEsc (s ++ [0]) r := by simp [rdEsc]
              rw [e] at h0 ⊢
              obtain ⟨m, hm1, hm2⟩ := ih (s ++ [0]) r (by simp at h; omega) h0
              refine ⟨0 :: m, by rw [hm1]; simp, ?_⟩
              simp only [esc, if_true, List.cons_append]
              rw [← hm2]
            · have e : (rdEsc s (0 :: d :: r)).2.2 = 21 := by simp [rdEsc, h1, h2]
              rw [e] at h0
              exact absurd h0 (by decide)
      · have e : rdEsc s (c :: r) = rdEsc (s ++ [c]) r := by
          rw [rdEsc.eq_def]
          simp only [if_neg hc]
        rw [e] at h0 ⊢
        obtain ⟨m, hm1, hm2⟩ := ih (s ++ [c]) r (by simp at h; omega) h0
        refine ⟨c :: m, by rw [hm1]; simp, ?_⟩
        simp only [esc, if_neg hc, List.cons_append]
        rw [← hm2]
theorem esc_mem : ∀ (m : List Int) (x : Int), x ∈ m → x ∈ esc m := by
  intro m
  induction m with
  | nil => intro x h; cases h
  | cons c t ih =>
    intro x h
    simp only [esc]
    rcases List.mem_cons.mp h with rfl | h
    · split
      · rename_i h0; simp [h0]
      · simp
    · split
      · exact List.mem_cons_of_mem _ (List.mem_cons_of_mem _ (ih x h))
      · exact List.mem_cons_of_mem _ (ih x h)
/-- What a number was read from. -/
theorem be8_num (l : List Int) (h : l.length = 8) (hb : ∀ x ∈ l, isByte x = true) : be8 (num256 l - 9223372036854775808) = l := by
  rcases l with _ | ⟨a, _ | ⟨b, _ | ⟨c, _ | ⟨d, _ | ⟨e, _ | ⟨f, _ | ⟨g, _ | ⟨i, _ | ⟨j, l⟩⟩⟩⟩⟩⟩⟩⟩⟩ <;> simp only [List.length_cons, List.length_nil] at h <;> first | omega | skip
  have q : ∀ x ∈ [a, b, c, d, e, f, g, i], 0 ≤ x ∧ x ≤ 255 := by
    intro x hx
    have := hb x hx
    simpa only [isByte, Bool.and_eq_true, decide_eq_true_eq] using this
  have qa := q a (by simp); have qb := q b (by simp); have qc := q c (by simp); have qd := q d (by simp)
  have qe := q e (by simp); have qf := q f (by simp); have qg := q g (by simp); have qi := q i (by simp)
  clear q hb h
  simp only [be8, num256, List.map_cons, List.map_nil, List.foldl_cons, List.foldl_nil, Int.reducePow, Int.zero_mul, Int.zero_add, Int.pow_zero, Int.ediv_one, List.cons.injEq, and_true]
  refine ⟨?_, ?_, ?_, ?_, ?_, ?_, ?_, ?_⟩ <;> omega
/-- What a value was read from. -/
theorem enc_stepR (c : Int) (r : List Int) (hc : isByte c = true) (hb : ∀ x ∈ r, isByte x = true) (h : (stepR c r).2.2 = 0) : encV (stepR c r).1 ++ (stepR c r).2.1 = c :: r ∧ mayB (stepR c r).1 = true ∧ okNum (stepR c r).1 = true := by
  unfold stepR at h ⊢
  split at h
  · rename_i h1
    subst h1
    rw [if_pos rfl]
    exact ⟨rfl, may0, rfl⟩
  · rename_i h1
    rw [if_neg h1]
    split at h
    · rename_i h2
      subst h2
      rw [if_pos rfl]
      unfold rdTruth at h ⊢
      split at h
      · exact absurd h (by decide)
      · rename_i h3
        split at h
        · exact absurd h (by decide)
        · rename_i h4
          rw [if_neg h3, if_neg h4]
          rcases r with _ | ⟨d, r⟩
          · simp at h3
          · have hd := hb d (by simp)
            simp only [isByte, Bool.and_eq_true, decide_eq_true_eq] at hd
            have e : rd (d :: r) 0 = d := rfl
            rw [e] at h4 ⊢
            have : d = 0 ∨ d = 1 := by omega
            rcases this with rfl | rfl <;> exact ⟨rfl, may1 _ (by decide), rfl⟩
    · rename_i h2
      rw [if_neg h2]
      split at h
      · rename_i h3
        subst h3
        rw [if_pos rfl]
        unfold rdNum at h ⊢
        split at h
        · exact absurd h (by decide)
        · rename_i h4
          rw [if_neg h4]
          have hl : (r.take 8).length = 8 := by rw [List.length_take]; omega
          have hbb : ∀ x ∈ r.take 8, isByte x = true := fun x hx => hb x (List.mem_of_mem_take hx)
          have h8 := be8_num (r.take 8) hl hbb
          obtain ⟨n0, n1⟩ := num256_lt r hb 8 (by omega)
          refine ⟨?_, may2 _, ?_⟩
          · show 3 :: be8 (num256 (r.take 8) - 9223372036854775808) ++ r.drop 8 = 3 :: r
            rw [h8]
            simp
          · simp only [okNum, Bool.and_eq_true, decide_eq_true_eq]
            omega
      · rename_i h3
        rw [if_neg h3]
        split at h
        · rename_i h4
          subst h4
          rw [if_pos rfl]
          unfold rdText at h ⊢
          split at h
          · rename_i h5
            rw [if_pos h5]
            obtain ⟨m, hm1, hm2⟩ := esc_rdEsc r.length [] r (Nat.le_refl _) h5
            have hm3 : ∀ x ∈ m, isByte x = true := by
              intro x hx
              refine hb x ?_
              rw [hm2]
              exact List.mem_append_left _ (esc_mem m x hx)
            refine ⟨?_, rfl, rfl⟩
            show 4 :: (esc (bytesOf (strOfNums (rdEsc [] r).1)) ++ [0, 1]) ++ (rdEsc [] r).2.1 = 4 :: r
            rw [hm1, List.nil_append, bytesOf_strOfNums m hm3]
            simp only [List.cons_append, List.append_assoc, List.nil_append]
            rw [← hm2]
          · exact absurd h (by assumption)
        · exact absurd h (by decide)
theorem enc_parse : ∀ (k : Nat) (out : List S39) (l : List Int), l.length < k → (∀ x ∈ l, isByte x = true) → out.all mayB = true → out.all okNum = true → (parseF k out l).2 = 0 →
    encR (parseF k out l).1 = encR out ++ l ∧ (parseF k out l).1.all mayB = true ∧ (parseF k out l).1.all okNum = true := by
  intro k
  induction k with
  | zero => intro _ l h; omega
  | succ k ih =>
    intro out l h hb hm hn h0
    unfold parseF at h0 ⊢
    split at h0
    · rename_i h1
      rw [if_pos h1]
      obtain rfl : l = [] := List.eq_nil_of_length_eq_zero h1
      simp [hm, hn]
    · rename_i h1
      rw [if_neg h1]
      split at h0
      · rename_i h2
        rw [if_pos h2]
        obtain ⟨c, r, rfl⟩ : ∃ c r, l = c :: r := by
          rcases l with _ | ⟨c, r⟩
          · simp at h1
          · exact ⟨c, r, rfl⟩
        have e1 : rd (c :: r) 0 = c := rfl
        have e2 : (c :: r).drop 1 = r := rfl
        rw [e1, e2] at h0 h2 ⊢
        have hbr : ∀ x ∈ r, isByte x = true := fun x hx => hb x (by simp [hx])
        obtain ⟨g1, g2, g3⟩ := enc_stepR c r (hb c (by simp)) hbr h2
        have gl := stepR_length c r
        obtain ⟨i1, i2, i3⟩ := ih (out ++ [(stepR c r).1]) (stepR c r).2.1 (by simp at h; omega) (stepR_bytes c r hbr) (by simp [hm, g2]) (by simp [hn, g3]) h0
        refine ⟨?_, i2, i3⟩
        rw [i1]
        have e3 : encR (out ++ [(stepR c r).1]) = encR out ++ encV (stepR c r).1 := by simp [encR]
        rw [e3, List.append_assoc, g1]
      · rename_i h2
        exact absurd h0 h2
/-- A refusal: nothing, with one of two errors. -/
theorem parse_err : ∀ (k : Nat) (out : List S39) (l : List Int), (parseF k out l).2 ≠ 0 → (parseF k out l).1 = [] ∧ ((parseF k out l).2 = 20 ∨ (parseF k out l).2 = 21) := by
  have he : ∀ (n : Nat) (s l : List Int), l.length ≤ n → (rdEsc s l).2.2 ≠ 0 → (rdEsc s l).2.2 = 20 ∨ (rdEsc s l).2.2 = 21 := by
    intro n
    induction n with
    | zero =>
      intro s l h _
      obtain rfl : l = [] := List.eq_nil_of_length_eq_zero (by omega)
      exact Or.inl (by simp [rdEsc])
    | succ n ih =>
      intro s l h h0
      rcases l with _ | ⟨c, r⟩
      · exact Or.inl (by simp [rdEsc])
      · by_cases hc : c = 0
        · subst hc
          rcases r with _ | ⟨d, r⟩
          · exact Or.inl (by simp [rdEsc])
          · by_cases h1 : d = 1
            · subst h1
              simp [rdEsc] at h0
            · by_cases h2 : d = 255
              · subst h2
                have e : rdEsc s (0 :: 255 :: r) = rdEsc (s ++ [0]) r := by simp [rdEsc]
                rw [e] at h0 ⊢
                exact ih _ _ (by simp at h; omega) h0
              · exact Or.inr (by simp [rdEsc, h1, h2])
        · have e : rdEsc s (c :: r) = rdEsc (s ++ [c]) r := by
            rw [rdEsc.eq_def]
            simp only [if_neg hc]
          rw [e] at h0 ⊢
          exact ih _ _ (by simp at h; omega) h0
  have hs : ∀ c r, (stepR c r).2.2 ≠ 0 → (stepR c r).2.2 = 20 ∨ (stepR c r).2.2 = 21 := by
    intro c r h
    unfold stepR at h ⊢
    split
    · rename_i h1; rw [if_pos h1] at h; exact absurd rfl h
    · rename_i h1
      rw [if_neg h1] at h
      split
      · rename_i h2
        rw [if_pos h2] at h
        unfold rdTruth at h ⊢
        split
        · exact Or.inl rfl
        · split
          · exact Or.inr rfl
          · rename_i h3 h4; rw [if_neg h3, if_neg h4] at h; exact absurd rfl h
      · rename_i h2
        rw [if_neg h2] at h
        split
        · rename_i h3
          rw [if_pos h3] at h
          unfold rdNum at h ⊢
          split
          · exact Or.inl rfl
          · rename_i h4; rw [if_neg h4] at h; exact absurd rfl h
        · rename_i h3
          rw [if_neg h3] at h
          split
          · rename_i h4
            rw [if_pos h4] at h
            unfold rdText at h ⊢
            split
            · rename_i h5; rw [if_pos h5] at h; exact absurd rfl h
            · rename_i h5
              exact he r.length [] r (Nat.le_refl _) h5
          · exact Or.inr rfl
  intro k
  induction k with
  | zero => intro out l h; exact absurd rfl h
  | succ k ih =>
    intro out l h
    unfold parseF at h ⊢
    split
    · rename_i h1; rw [if_pos h1] at h; exact absurd rfl h
    · rename_i h1
      rw [if_neg h1] at h
      split
      · rename_i h2
        rw [if_pos h2] at h
        exact ih _ _ h
      · rename_i h2
        exact ⟨rfl, hs _ _ h2⟩
end Go.Proofs.Ytlmcefhpnfoahaa.P
