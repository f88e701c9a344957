/- The law KeyBack answers true at every input: its walk, out of the contracts and the plain laws. No condition. -/
import Derived.Test.YtlmcefhpnfoahaaQBack
namespace Go.Proofs.Ytlmcefhpnfoahaa.P
open Go.RowKit Go.Proofs.YtlmcefhpnfoahaaW.PrintWords Go.Proofs.YtlmcefhpnfoahaaW.PrintLast Go.Proofs.YtlmcefhpnfoahaaW.PrintMore
set_option linter.unusedVariables false
set_option linter.unusedSimpArgs false

theorem leO_le {α : Type} {g : Nat → Option α} (hm : ∀ k, LeO (g k) (g (k + 1))) {m n : Nat} (h : m ≤ n) {r : α} (hr : g m = some r) : g n = some r := by
  induction n with
  | zero => obtain rfl : m = 0 := by omega
            exact hr
  | succ n ih =>
    by_cases e : m = n + 1
    · subst e; exact hr
    · exact hm n r (ih (by omega))
theorem encV_bytes (x : S39) : ∀ c ∈ encV x, isByte c = true := by
  have hmod : ∀ n : Int, isByte (n % 256) = true := by
    intro n
    simp only [isByte, Bool.and_eq_true, decide_eq_true_eq]
    omega
  have hesc : ∀ l : List Int, (∀ c ∈ l, isByte c = true) → ∀ c ∈ esc l, isByte c = true := by
    intro l
    induction l with
    | nil => intro _ c h; cases h
    | cons d t ih =>
      intro hb c h
      simp only [esc] at h
      have ht : ∀ c ∈ t, isByte c = true := fun c hc => hb c (by simp [hc])
      split at h
      · simp only [List.mem_cons] at h
        rcases h with rfl | rfl | h
        · rfl
        · rfl
        · exact ih ht c h
      · simp only [List.mem_cons] at h
        rcases h with rfl | h
        · exact hb _ (by simp)
        · exact ih ht c h
  intro c h
  unfold encV at h
  split at h
  · simp at h; subst h; rfl
  · split at h
    · simp at h
      rcases h with rfl | rfl
      · rfl
      · exact hmod _
    · split at h
      · simp only [List.mem_cons] at h
        rcases h with rfl | h
        · rfl
        · unfold be8 at h
          obtain ⟨j, _, rfl⟩ := List.mem_map.mp h
          exact hmod _
      · simp only [List.mem_cons, List.mem_append, List.not_mem_nil, or_false] at h
        rcases h with rfl | h | rfl | rfl
        · rfl
        · exact hesc _ (bytesOf_isByte _) c h
        · rfl
        · rfl
theorem encR_bytes (l : List S39) : ∀ c ∈ encR l, isByte c = true := by
  intro c h
  unfold encR at h
  obtain ⟨x, _, hx⟩ := List.mem_flatMap.mp h
  exact encV_bytes x c hx
theorem okNum_of (l : List S39) (hw : ∀ x ∈ l, okVal x) : l.all okNum = true := by
  rw [List.all_eq_true]
  intro x hx
  obtain ⟨_, ⟨h1, h2⟩, _⟩ := hw x hx
  simp [okNum, h1, h2]
theorem parse_f (l : List Int) (h : l.length ≤ 1000000) (hb : ∀ x ∈ l, isByte x = true) : key_Parse.f l = some (parseF (l.length + 1) [] l) := by
  unfold key_Parse.f
  exact if_pos ⟨by omega, by rw [List.all_eq_true]; exact hb, by omega⟩
theorem append_f (l : List S39) (h : (encR l).length ≤ 1000000) (hn : l.all okNum = true) : key_Append.f [] l = some (if l.all mayB then (encR l, 0) else ([], 1)) := by
  unfold key_Append.f
  rw [if_pos ⟨by simp; omega, hn⟩]
  simp
theorem back_j1 (l : List Int) (h : l.length ≤ 1000) (hb : ∀ x ∈ l, isByte x = true) (k : Nat) : tidelinelaw03_KeyBack.j1 (k + 1) l = some true := by
  unfold tidelinelaw03_KeyBack.j1
  dsimp only
  rw [parse_f l (by omega) hb, Option.bind_some]
  by_cases h0 : (parseF (l.length + 1) [] l).2 = 0
  · rw [if_pos h0]
    obtain ⟨g1, g2, g3⟩ := enc_parse (l.length + 1) [] l (by omega) hb rfl rfl h0
    have g4 : encR (parseF (l.length + 1) [] l).1 = l := by rw [g1]; rfl
    rw [append_f _ (by rw [g4]; omega) g3, g2, g4]
    simp only [Option.bind_some, if_true]
    rw [keys_true]
    rfl
  · rw [if_neg h0]
    obtain ⟨g1, g2⟩ := parse_err _ _ _ h0
    rw [g1, keys_true]
    simp only [List.length_nil, Option.bind_some, Int.natCast_zero, if_true]
    rcases g2 with g2 | g2 <;> rw [g2] <;> rfl
theorem back_f (l0 : List S39) (hm0 : l0.length ≤ maxLen) (hw0 : ∀ x ∈ l0, okVal x) (l1 : List Int) (hw1 : ∀ x ∈ l1, isByte x = true) : tidelinelaw03_KeyBack.f (l0.length + 40) l0 l1 = some true := by
  unfold tidelinelaw03_KeyBack.f
  obtain ⟨r, hlong, hlr⟩ := long_some l0
  rw [leO_le (g := fun k => tidelinelaw03_long.f k l0) (tidelinelaw03_long.mono l0) (by omega : 32 ≤ l0.length + 40) hlong, Option.bind_some]
  have ht : tidelinelaw03_KeyBack.j0 (l0.length + 40) l0 l1 true = some true := by
    unfold tidelinelaw03_KeyBack.j0
    rfl
  cases r with
  | true => rw [if_pos rfl]; exact ht
  | false =>
    obtain ⟨h30, h300⟩ := hlr rfl
    rw [if_neg (by decide)]
    by_cases hb : (l1.length : Int) > 1000
    · rw [decide_eq_true hb]; exact ht
    · rw [decide_eq_false hb]
      have hl := encR_le l0 h300
      have hn := okNum_of l0 hw0
      rw [show l0.length + 40 = (l0.length + 39) + 1 from rfl]
      unfold tidelinelaw03_KeyBack.j0
      dsimp only
      rw [if_neg (by decide), append_f l0 (by omega) hn, Option.bind_some]
      by_cases hm : l0.all mayB = true
      · rw [if_pos hm]
        simp only [if_true]
        rw [parse_f _ (by omega) (encR_bytes l0), Option.bind_some, parse_enc l0 _ [] (by have := enc_length l0; omega) hm hn]
        simp only [List.nil_append, if_true]
        rw [leO_le (g := fun k => tidelineref03_Same.f k l0 l0) (tidelineref03_Same.mono l0 l0) (by omega : l0.length + 1 ≤ l0.length + 39) (refSame_self l0 hm0), Option.bind_some, if_pos rfl]
        exact back_j1 l1 (by omega) hw1 _
      · rw [if_neg hm]
        simp only [Int.reduceEq, if_false]
        exact back_j1 l1 (by omega) hw1 _
theorem byte_all {l : List Int} (hw : ∀ x ∈ l, (Lit.int .u8 x).wf = true) : ∀ x ∈ l, isByte x = true := fun x hx => by
  have := byte_of_wf (hw x hx)
  unfold isByte
  simp only [Bool.and_eq_true, decide_eq_true_eq]
  exact this
theorem walk_KeyBack (A0 : Option Addr) (c0 : Nat) (l0 : List S39) (A1 : Option Addr) (c1 : Nat) (l1 : List Int) (w : World) (hr0 : Kd.C k39 w A0 l0.length l0) (hc0 : l0.length ≤ c0) (hm0 : l0.length ≤ maxLen) (hw0 : ∀ x ∈ l0, okVal x)
    (hr1 : Kd.C (Kd.int .u8) w A1 l1.length l1) (hc1 : l1.length ≤ c1) (hm1 : l1.length ≤ maxLen) (hw1 : ∀ x ∈ l1, (Lit.int .u8 x).wf = true) :
    Calls Try.prog 5 #[.slice A0 l0.length c0, .slice A1 l1.length c1] w fun e w' => e = .returned (.bool true) ∧ Below w.heap.size w w' :=
  tidelinelaw03_KeyBack.calls _ A0 c0 l0 A1 c1 l1 true w hr0 hc0 hr1 hc1 (back_f l0 hm0 hw0 l1 (byte_all hw1))
end Go.Proofs.Ytlmcefhpnfoahaa.P
