/- Part 3 of what the laws of this chapter stand on: texts of this session, gathered. Condition: none beside those that each theorem states. -/
import Derived.Test.YtlmcefhpnfoahaaBCOL2
section
namespace Go.Proofs.Ytlmcefhpnfoahaa.P
open Go.RowKit Go.Proofs.YtlmcefhpnfoahaaW.PrintWords Go.Proofs.YtlmcefhpnfoahaaW.PrintLast Go.Proofs.YtlmcefhpnfoahaaW.PrintMore
set_option linter.unusedVariables false
set_option linter.unusedSimpArgs false

theorem kindB_iff (kind : Int) : kindB kind = true ↔ isKind kind := by
  unfold kindB isKind
  simp only [Bool.and_eq_true, decide_eq_true_eq]
  omega
theorem refCol_l0 (kind : Int) (l : List S39) (hl : l.length ≤ 1000000) (h0 : ∀ x ∈ l, 0 ≤ x.f0) : ∀ (d k i : Nat), i + d = l.length → d < k → tidelineref06_Column.l0 k kind l i = some ((l.drop i).all (rowMay kind)) := by
  intro d
  induction d with
  | zero =>
    intro k i hi hk
    obtain ⟨k, rfl⟩ : ∃ j, k = j + 1 := ⟨k - 1, by omega⟩
    rw [tidelineref06_Column.l0, if_neg (by omega), List.drop_of_length_le (by omega)]
    rfl
  | succ d ih =>
    intro k i hi hk
    obtain ⟨k, rfl⟩ : ∃ j, k = j + 1 := ⟨k - 1, by omega⟩
    have hlt : i < l.length := by omega
    rw [tidelineref06_Column.l0, if_pos (by omega), if_pos (by omega), refMay (h0 _ (rdT_mem hlt)), Option.bind_some, w64s i (by omega), List.drop_eq_getElem_cons hlt, ← rdT_get hlt, List.all_cons]
    by_cases hm : mayB (rd_T39 l i) = true
    · rw [if_pos hm]
      by_cases hz : (rd_T39 l i).f0 = 0
      · rw [if_pos hz, ih k (i + 1) (by omega) (by omega)]
        congr 1
        simp [rowMay, hm, hz]
      · rw [if_neg hz]
        by_cases ht : (rd_T39 l i).f0 = kind
        · rw [if_pos ht, ih k (i + 1) (by omega) (by omega)]
          congr 1
          simp [rowMay, hm, ht]
        · rw [if_neg ht]
          congr 1
          simp [rowMay, hz, ht]
    · rw [if_neg hm]
      congr 1
      simp [rowMay, hm]
theorem refCol_f (kind : Int) (l : List S39) (hl : l.length ≤ 1000000) (h0 : ∀ x ∈ l, 0 ≤ x.f0) (k : Nat) (hk : l.length + 2 ≤ k) : tidelineref06_Column.f k kind l = some (decide (kindB kind = true ∧ l.length ≤ 65536 ∧ fitCol kind l = true)) := by
  obtain ⟨k, rfl⟩ : ∃ j, k = j + 1 := ⟨k - 1, by omega⟩
  unfold tidelineref06_Column.f
  have hkb := kindB_iff kind
  unfold isKind at hkb
  by_cases h1 : kind < 1
  · rw [if_pos h1, tidelineref06_Column.j0, if_pos rfl, decide_eq_false (fun h => by have := hkb.mp h.1; omega)]
  · rw [if_neg h1]
    by_cases h2 : kind > 3
    · rw [if_pos h2, tidelineref06_Column.j0, if_pos rfl, decide_eq_false (fun h => by have := hkb.mp h.1; omega)]
    · rw [if_neg h2]
      by_cases h3 : (l.length : Int) > 65536
      · rw [decide_eq_true h3, tidelineref06_Column.j0, if_pos rfl, decide_eq_false (fun h => by omega)]
      · rw [decide_eq_false h3, tidelineref06_Column.j0, if_neg (by decide)]
        have := refCol_l0 kind l hl h0 l.length k 0 (by omega) (by omega)
        rw [List.drop_zero] at this
        rw [show (0 : Int) = ((0 : Nat) : Int) from rfl, this]
        congr 1
        have hkk : kindB kind = true := hkb.mpr (by omega)
        have hll : l.length ≤ 65536 := by omega
        show fitCol kind l = _
        cases hf : fitCol kind l with
        | true => rw [decide_eq_true ⟨hkk, hll, rfl⟩]
        | false => rw [decide_eq_false (fun h => by cases h.2.2)]
theorem long6_l0 (l : List S39) (hl : l.length < 1000000) : ∀ (d k i : Nat), i + d = l.length → d < k → ∃ r, tidelinelaw06_long.l0 k l i = some r ∧ (r = false → ∀ j, i ≤ j → j < l.length → (rd_T39 l j).f2.size ≤ 300) := by
  intro d
  induction d with
  | zero =>
    intro k i hi hk
    obtain ⟨k, rfl⟩ : ∃ j, k = j + 1 := ⟨k - 1, by omega⟩
    rw [tidelinelaw06_long.l0, if_neg (by omega)]
    exact ⟨false, rfl, fun _ j h1 h2 => by omega⟩
  | succ d ih =>
    intro k i hi hk
    obtain ⟨k, rfl⟩ : ∃ j, k = j + 1 := ⟨k - 1, by omega⟩
    rw [tidelinelaw06_long.l0, if_pos (by omega), if_pos (by omega), w64s i (by omega)]
    by_cases h : ((rd_T39 l i).f2.size : Int) > 300
    · rw [if_pos h]; exact ⟨true, rfl, fun h => by cases h⟩
    · rw [if_neg h]
      obtain ⟨r, hr, hp⟩ := ih k (i + 1) (by omega) (by omega)
      refine ⟨r, hr, fun h0 j h1 h2 => ?_⟩
      by_cases hj : j = i
      · subst hj; omega
      · exact hp h0 j (by omega) h2
theorem long6_k (l : List S39) (k : Nat) (hk : 501 ≤ k) : ∃ r, tidelinelaw06_long.f k l = some r ∧ (r = false → l.length ≤ 500 ∧ ∀ x ∈ l, x.f2.size ≤ 300) := by
  unfold tidelinelaw06_long.f
  by_cases h2 : (l.length : Int) > 500
  · exact ⟨true, by rw [if_pos h2], fun h => by cases h⟩
  · obtain ⟨r, hr, hp⟩ := long6_l0 l (by omega) l.length k 0 (by omega) (by omega)
    refine ⟨r, by rw [if_neg h2]; exact hr, fun h0 => ⟨by omega, fun x hx => ?_⟩⟩
    obtain ⟨j, hj, e⟩ := List.getElem_of_mem hx
    have := hp h0 j (Nat.zero_le _) hj
    rw [rdT_get hj, e] at this
    exact this
theorem runsTo_bytes : ∀ (cs : List Int) (n : Nat) (c : Int), i64 c → (∀ d ∈ cs, i64 d) → n + cs.length ≤ 1000000 → ∀ x ∈ runsTo n c cs, isByte x = true := by
  have h2 : ∀ (n : Nat) (c : Int), i64 c → n ≤ 1000000 → ∀ x ∈ enc2 n c, isByte x = true := by
    intro n c hc hn x hx
    unfold enc2 at hx
    rcases List.mem_append.mp hx with h | h
    · exact vput9_isByte _ (by omega) (by omega) x h
    · have := zig_range c hc.1 hc.2
      exact vput9_isByte _ this.1 this.2 x h
  intro cs
  induction cs with
  | nil =>
    intro n c hc _ hn x hx
    unfold runsTo at hx
    split at hx
    · exact h2 n c hc (by simp at hn; omega) x hx
    · cases hx
  | cons d r ih =>
    intro n c hc hd hn x hx
    simp only [List.length_cons] at hn
    unfold runsTo at hx
    split at hx
    · rcases List.mem_append.mp hx with h | h
      · exact h2 n c hc (by omega) x h
      · exact ih 1 d (hd d (by simp)) (fun y hy => hd y (by simp [hy])) (by omega) x h
    · exact ih (n + 1) d (hd d (by simp)) (fun y hy => hd y (by simp [hy])) (by omega) x hx
theorem runsTo_le : ∀ (cs : List Int) (n : Nat) (c : Int), (runsTo n c cs).length ≤ 20 * (cs.length + 1) := by
  have h2 : ∀ (n : Nat) (c : Int), (enc2 n c).length ≤ 20 := by
    intro n c
    have := vput_length 9 (n : Int)
    have := vput_length 9 (zig c)
    unfold enc2
    rw [List.length_append]
    omega
  intro cs
  induction cs with
  | nil =>
    intro n c
    unfold runsTo
    split
    · have := h2 n c; simp; omega
    · simp
  | cons d r ih =>
    intro n c
    have := h2 n c
    have := ih 1 d
    have := ih (n + 1) d
    unfold runsTo
    rw [List.length_cons]
    split
    · rw [List.length_append]; omega
    · omega
theorem encInts_bytes (l : List Int) (hl : ∀ v ∈ l, i64 v) (hn : l.length ≤ 1000000) : ∀ x ∈ encInts l, isByte x = true :=
  runsTo_bytes _ 0 0 (by unfold i64; omega) (chg_i64 l 0 0) (by rw [chg_length]; omega)
theorem encInts_le6 (l : List Int) : (encInts l).length ≤ 20 * (l.length + 1) := by have := runsTo_le (chg 0 0 l) 0 0; rw [chg_length] at this; exact this
theorem flat_le6 {α : Type} (f : α → List Int) (m : Nat) : ∀ (l : List α), (∀ x ∈ l, (f x).length ≤ m) → (l.flatMap f).length ≤ m * l.length := by
  intro l
  induction l with
  | nil => intro _; simp
  | cons x t ih =>
    intro h
    have h1 := h x (by simp)
    have h2 := ih (fun y hy => h y (by simp [hy]))
    rw [List.flatMap_cons, List.length_append, List.length_cons, Nat.mul_succ]
    omega
theorem encTexts_le6 (m : List ByteArray) (n s : Nat) (hm : m.length ≤ n) (hs : ∀ x ∈ m, x.size ≤ s) : (encTexts m).length ≤ 10 + (10 + s) * n + 10 * n := by
  unfold encTexts
  have hw := words_length m []
  have h1 := vput_length 9 ((wordsOf [] m).length : Int)
  have h2 := flat_le6 encT (10 + s) (wordsOf [] m) (fun x hx => by
    have h3 := vput_length 9 (x.size : Int)
    have h4 : x.size ≤ s := by
      rcases words_of m [] x hx with h | h
      · cases h
      · exact hs x h
    unfold encT
    rw [List.length_append, bytesOf_length]
    omega)
  have h3 := flat_le6 (which (wordsOf [] m)) 10 m (fun x hx => vput_length 9 _)
  simp only [List.length_nil, Nat.zero_add] at hw
  have h4 : (10 + s) * (wordsOf [] m).length ≤ (10 + s) * n := Nat.mul_le_mul_left _ (by omega)
  have h5 : 10 * m.length ≤ 10 * n := Nat.mul_le_mul_left _ hm
  rw [List.length_append, List.length_append]
  omega
theorem encCol_le (kind : Int) (l : List S39) (h1 : l.length ≤ 500) (h2 : ∀ x ∈ l, x.f2.size ≤ 300) : (encCol kind l).length ≤ 200000 := by
  have hm := marks_le l
  have a1 := lay_length (fun i : Nat => nulV (rd_T39 l i)) l.length
  have a2 := lay_length (fun i : Nat => (rd_T39 (marksOf l) i).f1 == 1) (marksOf l).length
  have a3 := encInts_le6 ((marksOf l).map S39.f1)
  have a4 := encTexts_le6 ((marksOf l).map S39.f2) 500 300 (by rw [List.length_map]; omega) (fun x hx => by
    obtain ⟨y, hy, rfl⟩ := List.mem_map.mp hx
    exact h2 y ((List.mem_filter.mp hy).1))
  rw [List.length_map] at a3
  unfold encCol
  rw [List.length_append, a1]
  unfold encMarks
  split
  · rw [a2]; omega
  · split <;> omega
theorem encCol_bytes (kind : Int) (l : List S39) (hl : l.length ≤ 1000000) (h : ∀ x ∈ l, okV x) : ∀ c ∈ encCol kind l, isByte c = true := by
  intro c hc
  have hm := marks_le l
  unfold encCol at hc
  rcases List.mem_append.mp hc with h1 | h1
  · exact lay_bytes _ _ c h1
  · unfold encMarks at h1
    split at h1
    · exact lay_bytes _ _ c h1
    · split at h1
      · exact encInts_bytes _ (fun v hv => by
          obtain ⟨y, hy, rfl⟩ := List.mem_map.mp hv
          have := (h y ((List.mem_filter.mp hy).1)).1
          unfold okNum at this
          simp only [Bool.and_eq_true, decide_eq_true_eq] at this
          exact this) (by rw [List.length_map]; omega) c h1
      · exact encTexts_isByte _ (by rw [List.length_map]; omega) (fun s hs => by
          obtain ⟨y, hy, rfl⟩ := List.mem_map.mp hs
          exact (h y ((List.mem_filter.mp hy).1)).2) c h1
def badC (e : Int) : Prop := e = 20 ∨ e = 21
theorem vget_bad (b : List Int) (h : (vget b).2.2 ≠ 0) : badC (vget b).2.2 := by
  rcases vg_err 9 b h with h | h
  · exact Or.inl (by unfold vget; rw [h])
  · exact Or.inr (by unfold vget; rw [h])
theorem getRuns_bad : ∀ (f need : Nat) (prev : Option Int) (b : List Int), (getRuns f need prev b).2 ≠ 0 → badC (getRuns f need prev b).2 := by
  intro f
  induction f with
  | zero =>
    intro need prev b
    unfold getRuns
    (repeat' split) <;> intro h <;> first | exact absurd rfl h | exact Or.inl rfl | exact Or.inr rfl
  | succ f ih =>
    intro need prev b
    have hih := ih (need - (vget b).1.toNat) (some (zag (vget (b.drop (vget b).2.1.toNat)).1)) (b.drop ((vget b).2.1 + (vget (b.drop (vget b).2.1.toNat)).2.1).toNat)
    have h1 := vget_bad b
    have h2 := vget_bad (b.drop (vget b).2.1.toNat)
    unfold getRuns
    (repeat' split) <;> intro h <;> first | exact absurd rfl h | exact Or.inl rfl | exact Or.inr rfl | exact h1 h | exact h2 h | exact hih h
theorem getWords_bad : ∀ (k : Nat) (b : List Int), (getWords k b).2.2 ≠ 0 → badC (getWords k b).2.2 := by
  intro k
  induction k with
  | zero => intro b h; exact absurd rfl h
  | succ k ih =>
    intro b
    have hih := ih (b.drop ((vget b).2.1 + (vget b).1).toNat)
    have h1 := vget_bad b
    unfold getWords
    (repeat' split) <;> intro h <;> first | exact Or.inl rfl | exact Or.inr rfl | exact h1 h | exact hih h
theorem getWhich_bad (W : List ByteArray) : ∀ (k : Nat) (b : List Int), (getWhich W k b).2.2 ≠ 0 → badC (getWhich W k b).2.2 := by
  intro k
  induction k with
  | zero => intro b h; exact absurd rfl h
  | succ k ih =>
    intro b
    have hih := ih (b.drop (vget b).2.1.toNat)
    have h1 := vget_bad b
    unfold getWhich
    (repeat' split) <;> intro h <;> first | exact Or.inl rfl | exact Or.inr rfl | exact h1 h | exact hih h
theorem getInts_bad (b : List Int) (n : Nat) (h : (getInts b n).2 ≠ 0) : badC (getInts b n).2 := by
  unfold getInts at h ⊢
  have := getRuns_bad n n none b
  split at h
  · exact absurd rfl h
  · rename_i h2
    rw [if_neg h2]
    exact this h
theorem getTexts_bad (b : List Int) (n : Nat) (h : (getTexts b n).2 ≠ 0) : (getTexts b n).1 = [] ∧ badC (getTexts b n).2 := by
  revert h
  unfold getTexts
  (repeat' split) <;> intro h <;> first | exact absurd rfl h | exact ⟨rfl, Or.inl rfl⟩ | exact ⟨rfl, Or.inr rfl⟩ | exact ⟨rfl, vget_bad _ h⟩ | exact ⟨rfl, getWords_bad _ _ h⟩ | exact ⟨rfl, getWhich_bad _ _ _ h⟩
theorem getMarks_bad (kind : Int) (b : List Int) (n : Nat) (h : (getMarks kind b n).2 ≠ 0) : badC (getMarks kind b n).2 := by
  unfold getMarks at h ⊢
  split at h
  · rename_i h1
    rw [if_pos h1]
    revert h
    unfold getTruths
    (repeat' split) <;> intro h <;> first | exact absurd rfl h | exact Or.inl rfl | exact Or.inr rfl
  · rename_i h1
    rw [if_neg h1]
    split at h
    · rename_i h2
      rw [if_pos h2]
      exact getInts_bad b n h
    · rename_i h2
      rw [if_neg h2]
      exact (getTexts_bad b n h).2
theorem getCol_bad (kind : Int) (b : List Int) (n : Nat) (h : (getCol kind b n).2 ≠ 0) : (getCol kind b n).1 = [] ∧ badC (getCol kind b n).2 := by
  revert h
  unfold getCol
  (repeat' split) <;> intro h <;> first | exact absurd rfl h | exact ⟨rfl, Or.inl rfl⟩ | exact ⟨rfl, Or.inr rfl⟩ | exact ⟨rfl, getMarks_bad _ _ _ h⟩
theorem colPut_f (kind : Int) (l : List S39) (h1 : l.length ≤ 100000) (h2 : l.all okNum = true) (h3 : ∀ x ∈ l, x.f2.size ≤ 400000) : column_Put.f kind l = some (putCol kind l) := by
  unfold column_Put.f
  rw [if_pos ⟨h1, h2, by rw [List.all_eq_true]; intro x hx; simpa using h3 x hx⟩]
theorem colGet_f (kind : Int) (b : List Int) (n : Int) (h1 : b.length ≤ 400000) (h2 : ∀ x ∈ b, isByte x = true) : column_Get.f kind b n = some (getColI kind b n) := by
  unfold column_Get.f
  rw [if_pos ⟨h1, by rw [List.all_eq_true]; exact h2⟩]
theorem encCol_inj (kind : Int) (hk : isKind kind) (a b : List S39) (ha : fitCol kind a = true) (hb : fitCol kind b = true) (oa : ∀ x ∈ a, okV x) (ob : ∀ x ∈ b, okV x) (hl : a.length = b.length) (hn : a.length ≤ 1000000) (h : encCol kind a = encCol kind b) : a = b := by
  have h1 := getCol_enc kind hk a ha oa hn []
  have h2 := getCol_enc kind hk b hb ob (by omega) []
  rw [List.append_nil, if_pos rfl] at h1 h2
  rw [h, hl, h2] at h1
  injection h1 with h1
  exact h1.symm
theorem getCol_cut (kind : Int) (hk : isKind kind) (l : List S39) (hf : fitCol kind l = true) (ho : ∀ x ∈ l, okV x) (hn : l.length ≤ 1000000) (hle : (encCol kind l).length ≤ 1000000) (m : Nat) (h : m < (encCol kind l).length) : (getCol kind ((encCol kind l).take m) l.length).2 ≠ 0 := by
  intro he
  have hby := encCol_bytes kind l hn ho
  obtain ⟨g1, g2, g3, g4⟩ := enc_getCol kind hk ((encCol kind l).take m) l.length (fun x hx => hby x (List.mem_of_mem_take hx)) he
  obtain ⟨q, hq⟩ : ∃ q, q = (getCol kind ((encCol kind l).take m) l.length).1 := ⟨_, rfl⟩
  rw [← hq] at g1 g2 g3 g4
  have h1 := getCol_enc kind hk l hf ho hn []
  have h2 := getCol_enc kind hk q g1 (fun x hx => ⟨(g4 x hx).1, by have := (g4 x hx).2; rw [List.length_take] at this; omega⟩) (by omega) ((encCol kind l).drop m)
  rw [List.append_nil, if_pos rfl] at h1
  rw [g2, List.take_append_drop, g3, h1, if_neg (by rw [List.drop_eq_nil_iff]; omega)] at h2
  injection h2 with _ h2
  cases h2
end Go.Proofs.Ytlmcefhpnfoahaa.P
end
