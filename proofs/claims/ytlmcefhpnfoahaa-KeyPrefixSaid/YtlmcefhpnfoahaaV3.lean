/- The law KeyAppends answers true at every input: its walk, out of the contracts. No condition. -/
import Derived.Test.YtlmcefhpnfoahaaQKey
namespace Go.Proofs.Ytlmcefhpnfoahaa.P
open Go.RowKit Go.Proofs.YtlmcefhpnfoahaaW.PrintWords Go.Proofs.YtlmcefhpnfoahaaW.PrintLast Go.Proofs.YtlmcefhpnfoahaaW.PrintMore
set_option linter.unusedVariables false
set_option linter.unusedSimpArgs false

theorem encV_le (x : S39) (h : x.f2.size ≤ 300) : (encV x).length ≤ 603 := by
  have he : ∀ l : List Int, (esc l).length ≤ 2 * l.length := by
    intro l
    induction l with
    | nil => simp [esc]
    | cons c r ih => simp only [esc]; split <;> simp <;> omega
  have := he (bytesOf x.f2)
  rw [bytesOf_length] at this
  unfold encV
  split
  · simp
  · split
    · simp
    · split
      · simp [be8_length]
      · simp; omega
theorem encR_le (l : List S39) (h : ∀ j, j < l.length → (rd_T39 l j).f2.size ≤ 300) : (encR l).length ≤ 603 * l.length := by
  have : ∀ k : Nat, k ≤ l.length → (encR (l.take k)).length ≤ 603 * k := by
    intro k
    induction k with
    | zero => intro _; simp [encR]
    | succ k ih =>
      intro hk
      have h1 := ih (by omega)
      have h2 := encV_le _ (h k (by omega))
      rw [encR_snoc l k (by omega), List.length_append]
      omega
  have h2 := this l.length (Nat.le_refl _)
  rwa [List.take_length] at h2

set_option maxRecDepth 100000 in
set_option maxHeartbeats 3200000 in
theorem walk_KeyAppends (A0 : Option Addr) (c0 : Nat) (l0 : List Int) (A1 : Option Addr) (c1 : Nat) (l1 : List S39) (w : World) (hr0 : Kd.C (Kd.int .u8) w A0 l0.length l0) (hc0 : l0.length ≤ c0) (hm0 : l0.length ≤ maxLen) (hw0 : ∀ x ∈ l0, (Lit.int .u8 x).wf = true)
    (hr1 : Kd.C k39 w A1 l1.length l1) (hc1 : l1.length ≤ c1) (hm1 : l1.length ≤ maxLen) (hw1 : ∀ x ∈ l1, okVal x) :
    Calls Try.prog 3 #[.slice A0 l0.length c0, .slice A1 l1.length c1] w fun e w' => e = .returned (.bool true) ∧ Below w.heap.size w w' := by
  unfold maxLen at hm0 hm1
  have HR0 := Aside0.mk hr0
  have HR1 := Aside0.mk hr1
  have HV := Aside0.mk hw1
  clear hr0 hr1 hw0 hw1
  by_cases hb : 1000 < l0.length
  · have t1 : (1000 : Int) < (l0.length : Int) := by omega
    go_enter Try.func3, Try.ntmps3
    go_wp2
    go_ret
    exact ⟨rfl, Below.refl _ _⟩
  · have t1 : ¬ (1000 : Int) < (l0.length : Int) := by omega
    obtain ⟨r, hlong, hlr⟩ := long_some l1
    cases r with
    | true =>
      have HLG := Aside0.mk hlong
      clear hlong hlr
      go_enter Try.func3, Try.ntmps3
      go_wp2_with (go_at_call 29; refine (tidelinelaw03_long.calls 32 _ _ l1 true _ HR1.out hc1 HLG.out).mono ?_; rintro e w' ⟨rfl, ⟨n, rfl⟩⟩)
      go_ret
      exact ⟨rfl, pw_below_drewN (Below.refl _ _) _⟩
    | false =>
      have HLG := Aside0.mk hlong
      obtain ⟨h30, h300⟩ := hlr rfl
      have hR := encR_le l1 h300
      have hok : l1.all okNum = true := by
        rw [List.all_eq_true]
        intro x hx
        have := (HV.out x hx).2.1
        unfold okNum
        simp only [Bool.and_eq_true, decide_eq_true_eq]
        exact this
      have HA := Aside0.mk (show key_Append.f l0 l1 = some (if l1.all mayB then (l0 ++ encR l1, 0) else ([], 1)) by
        unfold key_Append.f
        exact if_pos ⟨by omega, hok⟩)
      have HB := Aside0.mk (refAppend l0 l1 (by omega) HV.out h300 (by omega))
      obtain ⟨⟨X, E⟩, hXE⟩ : ∃ p : List Int × Int, p = if l1.all mayB then (l0 ++ encR l1, 0) else ([], 1) := ⟨_, rfl⟩
      rw [← hXE] at HA HB
      clear hlong hlr h300 hR hXE HV hok
      have hlin : (l0 ++ [7]).length = l0.length + 1 := by simp
      have HLI := Aside0.mk hlin
      clear hlin
      go_enter Try.func3, Try.ntmps3
      go_wp2_with (first
        | (go_at_call 29; refine (tidelinelaw03_long.calls 32 _ _ l1 false _ HR1.out hc1 HLG.out).mono ?_; rintro e w' ⟨rfl, ⟨n, rfl⟩⟩)
        | (at_builtin; refine (Own.empty (W := w.drewN n) (Kd.int .u8) 5 (pw_below_drewN (Below.refl _ _) _) (Nat.le_refl _)).bytes rfl _ _ (Kd.C_alloc (Kd.C_drewN HR0.out _) _) rfl rfl rfl (by simp; omega) ?_; intro v1 w1 ho hg hat; have HO := Aside0.mk ho; clear ho hg hat)
        | (at_builtin; refine HO.out.byte rfl _ _ _ rfl rfl rfl (by simp; omega) ?_; intro v1 w1 ho hg hat; obtain ⟨Ai, ni, ci, ei, hni, hnc, hCi⟩ := ho.sl'; subst ei; obtain ⟨ad, ea, _⟩ := C_rd hCi.out l0.length (by have := hni.out; simp at this; omega); subst ea; have HI := Aside0.mk ho; clear ho hg hat HO)
        | (at_builtin; refine (Own.empty k39 39 HI.out.b HI.out.s).vals rfl _ _ (Kd.C_below HR1.out (HI.out.alloc _).b) rfl rfl rfl (by simp; omega) ?_; intro v1 w1 ho hg hat; obtain ⟨Am, nm, cm, em, hnm, hcm, hCm⟩ := ho.sl'; subst em; have HM := Aside0.mk (ho.of_cast (List.nil_append l1)); obtain rfl : nm = l1.length := (by have := hnm.out; simpa using this); have HI1 := Aside0.mk (HI.out.step (below_fresh hg (fun k hk => by simp [Value.ownBlock] at hk; omega))); obtain ⟨n', k1, k2, k3, k4⟩ := cut_to (some ad) ni ci ([] ++ l0 ++ [7]) l0.length hni.out.symm (by omega) (by have := hni.out; simp at this; omega) hnc; obtain rfl : n' = l0.length := (by simpa using k2); have HC0 : Aside0 (Kd.C (Kd.int .u8) w1 (some ad) l0.length l0) := ⟨(by have := k4 w1 (by have := (Kd.R_reads' HI1.out.r).2.2; rwa [← hni.out] at this); simpa using this)⟩; have HC1 : Aside0 (Kd.C k39 w1 Am l1.length l1) := ⟨(by simpa using hCm.out)⟩; clear ho hat hg hCi hCm hnm HI k2 k4)
        | (go_at_call 30; refine (key_Append.calls _ _ l0 _ _ l1 X E _ HC0.out k3 HC1.out hcm HA.out).mono ?_; rintro e w' ⟨vx, rfl, hr, hb'⟩; have HX := Aside0.mk (Own.made HI1.out.b HI1.out.s hr hb'); have HI2 := Aside0.mk (HI1.out.step hb'); have HM2 := Aside0.mk (HM.out.step hb'); obtain ⟨Ax, nx, cx, ex, hnx, hcx, hCx⟩ := HX.out.sl'; subst ex; clear hr hb' HI1 HM HC0 HC1 hCx)
        | (go_at_call 31; refine (tidelineref03_Append.calls (l1.length + 322) _ _ l0 _ _ l1 X E _ (Kd.C_below HR0.out HX.out.b) hc0 (Kd.C_below HR1.out HX.out.b) hc1 HB.out).mono ?_; rintro e w' ⟨vy, rfl, hr, hb'⟩; have HY := Aside0.mk (Own.made HX.out.b HX.out.s hr hb'); have HI3 := Aside0.mk (HI2.out.step hb'); have HM3 := Aside0.mk (HM2.out.step hb'); obtain ⟨Ay, ny, cy, ey, hny, hcy, hCy⟩ := HY.out.sl'; subst ey; have s1 := (HX.out.step hb').str; have s2 := HY.out.str; have HC1 : Aside0 (Kd.C k39 w' Am l1.length l1) := ⟨(Kd.R_reads' HM3.out.r).2.2⟩; obtain ⟨ad', ea', q7⟩ := C_rd (Kd.R_reads' HI3.out.r).2.2 l0.length (by simp); cases ea'; have e7 : rd ([] ++ l0 ++ [7]) l0.length = 7 := (by simp [rd]); rw [e7] at q7; have i7 : l0.length < ni := (by have := hni.out; simp at this; omega); have HBL := Aside0.mk HY.out.b; clear hr hb' e7 HI2 HM2 HX HY hCy HI3 HM3)
        | (go_at_call 32; refine (tidelineref03_Same.calls (l1.length + 1) _ _ l1 _ _ l1 true _ HC1.out hcm (Kd.C_below HR1.out HBL.out) hc1 (refSame_self l1 (by unfold maxLen; omega))).mono ?_; rintro e w' ⟨rfl, ⟨m, rfl⟩⟩)
        | (go_at_call 33; refine (tidelinelaw03_keys.calls true _ keys_true).mono ?_; rintro e w' ⟨rfl, hb'⟩; have HBM := Aside0.mk (below_then (pw_below_drewN HBL.out m) (by exact HBL.out.size) hb'); clear hb'))
      go_ret
      exact ⟨rfl, HBM.out⟩
end Go.Proofs.Ytlmcefhpnfoahaa.P
