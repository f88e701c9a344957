/- The reference's Parse computes parseF, as key.Parse does: a plain law on lists. Condition: bytes, a million at most. -/
import Derived.Test.YtlmcefhpnfoahaaQKey
import Derived.Test.YtlmcefhpnfoahaaG114
namespace Go.Proofs.Ytlmcefhpnfoahaa.P
open Go.RowKit Go.Proofs.YtlmcefhpnfoahaaW.PrintWords Go.Proofs.YtlmcefhpnfoahaaW.PrintLast Go.Proofs.YtlmcefhpnfoahaaW.PrintMore
set_option linter.unusedSimpArgs false
set_option linter.unusedVariables false

theorem rd_at_drop (l : List Int) (i : Nat) : rd (l.drop i) 0 = rd l i := by
  have := rd_drop l i 0
  rwa [Nat.add_zero] at this
theorem rd_at_drop1 (l : List Int) (i : Nat) : rd (l.drop i) 1 = rd l ((i + 1 : Nat) : Int) := rd_drop l i 1
/-- What is left of a text is a part of what was there. -/
theorem rdEsc_part (n : Nat) : ∀ s l : List Int, l.length ≤ n → ∃ m, m ≤ l.length ∧ ((rdEsc s l).2.2 = 0 → (rdEsc s l).2.1 = l.drop m) := by
  induction n with
  | zero =>
    intro s l h
    obtain rfl : l = [] := List.eq_nil_of_length_eq_zero (by omega)
    exact ⟨0, Nat.le_refl _, fun h => by rw [rdEsc_nil] at h; cases h⟩
  | succ n ih =>
    intro s l h
    by_cases h0 : l.length = 0
    · obtain rfl : l = [] := List.eq_nil_of_length_eq_zero h0
      exact ⟨0, Nat.le_refl _, fun h => by rw [rdEsc_nil] at h; cases h⟩
    · by_cases hc : rd l 0 = 0
      · by_cases h1 : l.length = 1
        · exact ⟨0, Nat.zero_le _, fun h => by rw [rdEsc_end s l h1 hc] at h; cases h⟩
        · rw [rdEsc_two s l (by omega) hc]
          by_cases d1 : rd l 1 = 1
          · rw [if_pos d1]; exact ⟨2, by omega, fun _ => rfl⟩
          · rw [if_neg d1]
            by_cases d2 : rd l 1 = 255
            · rw [if_pos d2]
              obtain ⟨m, hm, hp⟩ := ih (s ++ [0]) (l.drop 2) (by rw [List.length_drop]; omega)
              rw [List.length_drop] at hm
              exact ⟨2 + m, by omega, fun h => by rw [hp h, List.drop_drop]⟩
            · rw [if_neg d2]; exact ⟨0, Nat.zero_le _, fun h => by cases h⟩
      · rw [rdEsc_char s l (by omega) hc]
        obtain ⟨m, hm, hp⟩ := ih (s ++ [rd l 0]) (l.drop 1) (by rw [List.length_drop]; omega)
        rw [List.length_drop] at hm
        exact ⟨1 + m, by omega, fun h => by rw [hp h, List.drop_drop]⟩

/-- The reference's text. -/
theorem text_l0 (b : List Int) (hb : b.length ≤ 1000000) : ∀ (d k i : Nat) (s : List Int), i + d = b.length → d < k → s.length + d ≤ 1000000 →
    tidelineref03_text.l0 k b s i = some (if (rdEsc s (b.drop i)).2.2 = 0 then (strOfNums (rdEsc s (b.drop i)).1, (b.length : Int) - ((rdEsc s (b.drop i)).2.1.length : Int), 0) else (⟨#[]⟩, 0, (rdEsc s (b.drop i)).2.2)) := by
  intro d
  induction d using Nat.strongRecOn with
  | _ d ih =>
  intro k i s hi hk hs
  obtain ⟨k, rfl⟩ : ∃ m, k = m + 1 := ⟨k - 1, by omega⟩
  simp only [tidelineref03_text.l0]
  by_cases h0 : d = 0
  · rw [if_neg (by omega), List.drop_eq_nil_of_le (by omega), rdEsc_nil]
    rfl
  · have hl : (b.drop i).length = d := by rw [List.length_drop]; omega
    rw [if_pos (by omega), if_pos (by omega)]
    by_cases hc : rd b i = 0
    · rw [if_pos hc, w64s i (by omega)]
      have hc' : rd (b.drop i) 0 = 0 := by rw [rd_at_drop, hc]
      by_cases h1 : d = 1
      · rw [if_pos (by omega), rdEsc_end s _ (by omega) hc']
        rfl
      · rw [if_neg (by omega), if_pos (by omega), if_pos (by omega), rdEsc_two s _ (by omega) hc', rd_at_drop1]
        have e2 : wrap64 ((i : Int) + 2) = ((i + 2 : Nat) : Int) := by rw [w64 (by omega) (by omega)]; omega
        rw [e2]
        by_cases d1 : rd b ((i + 1 : Nat) : Int) = 1
        · rw [if_pos d1, if_pos d1, List.drop_drop]
          simp only [if_true]
          have : ((b.drop (i + 2)).length : Int) = (b.length : Int) - ((i + 2 : Nat) : Int) := by rw [List.length_drop]; omega
          rw [this]
          simp only [Option.some.injEq, Prod.mk.injEq, true_and, and_true]
          omega
        · rw [if_neg d1, if_neg d1]
          by_cases d2 : rd b ((i + 1 : Nat) : Int) = 255
          · rw [if_pos d2, if_pos d2, if_pos (by omega), List.drop_drop]
            exact ih (d - 2) (by omega) k (i + 2) (s ++ [0]) (by omega) (by omega) (by rw [List.length_append, List.length_singleton]; omega)
          · rw [if_neg d2, if_neg d2]
            rfl
    · rw [if_neg hc, if_pos (by omega), w64s i (by omega)]
      have hc' : rd (b.drop i) 0 ≠ 0 := by rw [rd_at_drop]; exact hc
      rw [rdEsc_char s _ (by omega) hc', rd_at_drop, List.drop_drop]
      exact ih (d - 1) (by omega) k (i + 1) (s ++ [rd b i]) (by omega) (by omega) (by rw [List.length_append, List.length_singleton]; omega)
theorem text_f (b : List Int) (hb : b.length ≤ 1000000) (k : Nat) (hk : b.length < k) :
    tidelineref03_text.f k b = some (if (rdEsc [] b).2.2 = 0 then (strOfNums (rdEsc [] b).1, (b.length : Int) - ((rdEsc [] b).2.1.length : Int), 0) else (⟨#[]⟩, 0, (rdEsc [] b).2.2)) :=
  text_l0 b hb b.length k 0 [] (by omega) hk (by simpa using hb)

/-- The eight bytes of a number. -/
theorem parse_l1 (l : List Int) (hl : l.length ≤ 1000000) (hb : ∀ x ∈ l, isByte x = true) (out : List S39) (ho : out.length ≤ 1000000) (i : Nat) (h8 : i + 8 ≤ l.length) : ∀ (d k j : Nat), j + d = 8 → d < k →
    tidelineref03_Parse.l1 k l out i (num256 ((l.drop i).take j)) j = tidelineref03_Parse.l0 (k - d - 1) l (out ++ [⟨2, num256 ((l.drop i).take 8) - 9223372036854775808, ⟨#[]⟩⟩]) ((i + 8 : Nat) : Int) := by
  intro d
  induction d with
  | zero =>
    intro k j hj hk
    obtain rfl : j = 8 := by omega
    obtain ⟨k, rfl⟩ : ∃ m, k = m + 1 := ⟨k - 1, by omega⟩
    have hnb := num256_lt (l.drop i) (fun x hx => hb x (List.mem_of_mem_drop hx)) 8 (by rw [List.length_drop]; omega)
    simp only [tidelineref03_Parse.l1]
    rw [if_neg (by omega), if_pos (by omega)]
    have e1 : wrap64 (IntKind.u64.wrap (num256 ((l.drop i).take 8) - 9223372036854775808)) = num256 ((l.drop i).take 8) - 9223372036854775808 := by
      have : (256 : Int) ^ 8 = 18446744073709551616 := by decide
      have hw : ∀ m : Int, IntKind.u64.wrap m = m % 18446744073709551616 := fun m => rfl
      rw [hw]
      unfold wrap64
      omega
    have e2 : wrap64 ((i : Int) + 8) = ((i + 8 : Nat) : Int) := by rw [w64 (by omega) (by omega)]; omega
    rw [e1, e2]
    rfl
  | succ d ih =>
    intro k j hj hk
    obtain ⟨k, rfl⟩ : ∃ m, k = m + 1 := ⟨k - 1, by omega⟩
    have hj8 : j < 8 := by omega
    have hnb := num256_lt (l.drop i) (fun x hx => hb x (List.mem_of_mem_drop hx)) j (by rw [List.length_drop]; omega)
    have hn1 : num256 ((l.drop i).take j) < 72057594037927936 := by
      have : (256 : Int) ^ j ≤ 256 ^ 7 := (by decide : ∀ q : Fin 8, (256 : Int) ^ q.val ≤ 256 ^ 7) ⟨j, hj8⟩
      omega
    have hr := rd_isByte hb (i + j) (by omega)
    simp only [tidelineref03_Parse.l1]
    have e0 : wrap64 ((i : Int) + (j : Int)) = ((i + j : Nat) : Int) := by rw [w64 (by omega) (by omega)]; omega
    rw [if_pos (by omega), e0, if_pos (by omega), if_pos (by omega), w64s j (by omega)]
    have es : num256 ((l.drop i).take (j + 1)) = num256 ((l.drop i).take j) * 256 + rd l ((i + j : Nat) : Int) := by
      rw [num256_snoc (l.drop i) j (by rw [List.length_drop]; omega), rd_drop]
    have hw : ∀ m : Int, IntKind.u64.wrap m = m % 18446744073709551616 := fun m => rfl
    have ew : IntKind.u64.wrap (IntKind.u64.wrap (num256 ((l.drop i).take j) * 256) + IntKind.u64.wrap (rd l ((i + j : Nat) : Int))) = num256 ((l.drop i).take (j + 1)) := by
      rw [es, hw, hw, hw]
      omega
    rw [ew, ih k (j + 1) (by omega) (by omega), show k + 1 - (d + 1) - 1 = k - d - 1 by omega]

theorem parse_l0 (l : List Int) (hl : l.length ≤ 1000000) (hb : ∀ x ∈ l, isByte x = true) : ∀ (d k f i : Nat) (out : List S39), i + d = l.length → 2 * d + 12 < k → d < f → out.length + d ≤ 1000000 →
    tidelineref03_Parse.l0 k l out i = some (parseF f out (l.drop i)) := by
  intro d
  induction d using Nat.strongRecOn with
  | _ d ih =>
  intro k f i out hi hk hf ho
  obtain ⟨k, rfl⟩ : ∃ m, k = m + 1 := ⟨k - 1, by omega⟩
  obtain ⟨f, rfl⟩ : ∃ m, f = m + 1 := ⟨f - 1, by omega⟩
  have hdl : (l.drop i).length = d := by rw [List.length_drop]; omega
  simp only [tidelineref03_Parse.l0]
  unfold parseF
  rw [hdl, rd_at_drop, List.drop_drop]
  by_cases h0 : d = 0
  · rw [if_neg (by omega), if_pos h0]
  · rw [if_pos (by omega), if_pos (by omega), if_neg h0, w64s i (by omega)]
    have hd1 : (l.drop (i + 1)).length = d - 1 := by rw [List.length_drop]; omega
    by_cases c1 : rd l i = 1
    · have hs : stepR (rd l i) (l.drop (i + 1)) = (z39, l.drop (i + 1), 0) := by unfold stepR; rw [if_pos c1]
      rw [if_pos c1, if_pos (by omega), hs]
      simp only [if_true]
      exact ih (d - 1) (by omega) k f (i + 1) _ (by omega) (by omega) (by omega) (by rw [List.length_append, List.length_singleton]; omega)
    · rw [if_neg c1]
      by_cases c2 : rd l i = 2
      · have hs : stepR (rd l i) (l.drop (i + 1)) = rdTruth (l.drop (i + 1)) := by unfold stepR; rw [if_neg c1, if_pos c2]
        rw [if_pos c2, hs]
        by_cases t0 : d = 1
        · have hv : rdTruth (l.drop (i + 1)) = (z39, [], 20) := by unfold rdTruth; rw [if_pos (by omega)]
          rw [if_pos (by omega), hv]
          rfl
        · have hr := rd_isByte hb (i + 1) (by omega)
          rw [if_neg (by omega), if_pos (by omega), if_pos (by omega)]
          by_cases t1 : rd l ((i + 1 : Nat) : Int) > 1
          · have hv : rdTruth (l.drop (i + 1)) = (z39, [], 21) := by unfold rdTruth; rw [if_neg (by omega), rd_at_drop, if_pos t1]
            rw [if_pos t1, hv]
            rfl
          · have hv : rdTruth (l.drop (i + 1)) = (⟨1, rd l ((i + 1 : Nat) : Int), ⟨#[]⟩⟩, l.drop (i + 1 + 1), 0) := by unfold rdTruth; rw [if_neg (by omega), rd_at_drop, if_neg t1, List.drop_drop]
            rw [if_neg t1, if_pos (by omega), w64s (i + 1) (by omega), w64 (by omega) (by omega), hv]
            simp only [if_true]
            exact ih (d - 2) (by omega) k f (i + 1 + 1) _ (by omega) (by omega) (by omega) (by rw [List.length_append, List.length_singleton]; omega)
      · rw [if_neg c2]
        by_cases c3 : rd l i = 3
        · have hs : stepR (rd l i) (l.drop (i + 1)) = rdNum (l.drop (i + 1)) := by unfold stepR; rw [if_neg c1, if_neg c2, if_pos c3]
          rw [if_pos c3, hs]
          have e0 : wrap64 ((l.length : Int) - ((i + 1 : Nat) : Int)) = (d : Int) - 1 := by rw [w64 (by omega) (by omega)]; omega
          rw [e0]
          by_cases t8 : d - 1 < 8
          · have hv : rdNum (l.drop (i + 1)) = (z39, [], 20) := by unfold rdNum; rw [if_pos (by omega)]
            rw [if_pos (by omega), hv]
            rfl
          · have hv : rdNum (l.drop (i + 1)) = (⟨2, num256 ((l.drop (i + 1)).take 8) - 9223372036854775808, ⟨#[]⟩⟩, l.drop (i + 1 + 8), 0) := by unfold rdNum; rw [if_neg (by omega), List.drop_drop]
            rw [if_neg (by omega), hv]
            have := parse_l1 l hl hb out (by omega) (i + 1) (by omega) 8 k 0 (by omega) (by omega)
            simp only [List.take_zero] at this
            rw [show num256 ([] : List Int) = 0 from rfl] at this
            rw [show ((0 : Nat) : Int) = 0 from rfl] at this
            rw [this]
            simp only [if_true]
            exact ih (d - 9) (by omega) (k - 8 - 1) f (i + 1 + 8) _ (by omega) (by omega) (by omega) (by rw [List.length_append, List.length_singleton]; omega)
        · rw [if_neg c3]
          by_cases c4 : rd l i = 4
          · have hs : stepR (rd l i) (l.drop (i + 1)) = rdText (l.drop (i + 1)) := by unfold stepR; rw [if_neg c1, if_neg c2, if_neg c3, if_pos c4]
            rw [if_pos c4, if_pos (by omega), if_pos (by omega), hs, Int.toNat_natCast, text_f _ (by omega) k (by omega)]
            simp only [Option.bind_some]
            obtain ⟨m, hm, hp⟩ := rdEsc_part (l.drop (i + 1)).length [] (l.drop (i + 1)) (Nat.le_refl _)
            by_cases he : (rdEsc [] (l.drop (i + 1))).2.2 = 0
            · have hv : rdText (l.drop (i + 1)) = (⟨3, 0, strOfNums (rdEsc [] (l.drop (i + 1))).1⟩, l.drop (i + 1 + m), 0) := by unfold rdText; rw [if_pos he, hp he, List.drop_drop]
              rw [if_pos he, hv, hp he, List.drop_drop]
              simp only [if_true]
              rw [hd1] at hm
              rw [if_pos (by omega)]
              simp only [List.length_drop]
              have e1 : wrap64 (((i + 1 : Nat) : Int) + (((l.length - (i + 1) : Nat) : Int) - ((l.length - (i + 1 + m) : Nat) : Int))) = ((i + 1 + m : Nat) : Int) := by
                rw [w64 (by omega) (by omega)]; omega
              rw [e1]
              exact ih (d - 1 - m) (by omega) k f (i + 1 + m) _ (by omega) (by omega) (by omega) (by rw [List.length_append, List.length_singleton]; omega)
            · have hv : rdText (l.drop (i + 1)) = (z39, [], (rdEsc [] (l.drop (i + 1))).2.2) := by unfold rdText; rw [if_neg he]
              rw [if_neg he, hv]
              simp only
              rw [if_neg he, if_neg he]
          · have hs : stepR (rd l i) (l.drop (i + 1)) = (z39, [], 21) := by unfold stepR; rw [if_neg c1, if_neg c2, if_neg c3, if_neg c4]
            rw [if_neg c4, hs]
            rfl
theorem refParse (l : List Int) (hl : l.length ≤ 1000000) (hb : ∀ x ∈ l, isByte x = true) : tidelineref03_Parse.f (2 * l.length + 13) l = some (parseF (l.length + 1) [] l) := by
  unfold tidelineref03_Parse.f
  exact parse_l0 l hl hb l.length (2 * l.length + 13) (l.length + 1) 0 [] (by omega) (by omega) (by omega) (by simpa using hl)
end Go.Proofs.Ytlmcefhpnfoahaa.P
