/- Rows whose keys lie between a row's key and what comes after it, in plain Lean. No condition. -/
import Derived.Test.YtlmcefhpnfoahaaQOrd
namespace Go.Proofs.Ytlmcefhpnfoahaa.P
open Go.RowKit Go.Proofs.YtlmcefhpnfoahaaW.PrintWords Go.Proofs.YtlmcefhpnfoahaaW.PrintLast Go.Proofs.YtlmcefhpnfoahaaW.PrintMore
set_option linter.unusedVariables false
set_option linter.unusedSimpArgs false

theorem encV_low (x : S39) (hm : mayB x = true) : ∃ t, encV x = (x.f0 + 1) :: t ∧ 0 ≤ x.f0 ∧ x.f0 ≤ 3 := by
  obtain ⟨t, ht⟩ := encV_head x hm
  refine ⟨t, ht, ?_⟩
  simp only [mayB, Bool.or_eq_true, Bool.and_eq_true, beq_iff_eq] at hm
  rcases hm with ((⟨⟨h, _⟩, _⟩ | ⟨⟨h, _⟩, _⟩) | ⟨h, _⟩) | ⟨h, _⟩ <;> rw [h] <;> decide
theorem lx_high (b : List S39) (mb : b.all mayB = true) : lx (encR b) [255] = true := by
  rcases b with _ | ⟨y, u⟩
  · rfl
  · simp only [List.all_cons, Bool.and_eq_true] at mb
    obtain ⟨t, ht, h0, h3⟩ := encV_low y mb.1
    have e : encR (y :: u) = (y.f0 + 1) :: (t ++ encR u) := by
      show encV y ++ encR u = _
      rw [ht]
      rfl
    rw [e]
    have : y.f0 + 1 < 255 := by omega
    simp [lx, this]
theorem inside : ∀ (a b : List S39), a.all mayB = true → b.all mayB = true → a.all okNum = true → b.all okNum = true →
    ((!lx (encR b) (encR a) && lx (encR b) (encR a ++ [255])) = true ↔ a = b.take a.length) := by
  intro a
  induction a with
  | nil =>
    intro b _ mb _ _
    have e : encR ([] : List S39) = [] := rfl
    rw [e, lx_nil, List.nil_append, lx_high b mb]
    exact ⟨fun _ => rfl, fun _ => rfl⟩
  | cons x t ih =>
    intro b ma mb na nb
    have ex : encR (x :: t) = encV x ++ encR t := rfl
    rcases b with _ | ⟨y, u⟩
    · simp only [List.all_cons, Bool.and_eq_true] at ma
      obtain ⟨s, hs, h0, h3⟩ := encV_low x ma.1
      have e : encR ([] : List S39) = [] := rfl
      rw [e, ex, hs]
      simp [lx]
    · have ey : encR (y :: u) = encV y ++ encR u := rfl
      simp only [List.all_cons, Bool.and_eq_true] at ma mb na nb
      rw [ex, ey]
      by_cases hxy : x = y
      · subst hxy
        rw [List.append_assoc, lx_pre, lx_pre, ih u ma.2 mb.2 na.2 nb.2]
        simp
      · rw [List.append_assoc, lx_encV y x mb.1 ma.1 nb.1 na.1 (fun e => hxy e.symm), lx_encV y x mb.1 ma.1 nb.1 na.1 (fun e => hxy e.symm)]
        cases lessV y x <;> simp [hxy]
theorem encR_append (a b : List S39) : encR (a ++ b) = encR a ++ encR b := by simp [encR]
theorem str_append (a b : List Int) : strOfNums (a ++ b) = strOfNums a ++ strOfNums b := by
  apply ByteArray.ext
  apply Array.ext'
  simp [strOfNums]
theorem lx_pre0 (p r : List Int) : lx (p ++ r) p = false := by
  have := lx_pre p r []
  rw [List.append_nil, lx_nil] at this
  exact this
end Go.Proofs.Ytlmcefhpnfoahaa.P
