/- The law KeyOrders answers true at every input: its walk, out of the contracts and the plain laws. No condition. (Printed in part by wip/tools/gen4.py.) -/
import Derived.Test.YtlmcefhpnfoahaaQOrd
import Derived.Deep.RegionWith
namespace Go.Proofs.Ytlmcefhpnfoahaa.P
open Go.RowKit Go.Proofs.YtlmcefhpnfoahaaW.PrintWords Go.Proofs.YtlmcefhpnfoahaaW.PrintLast Go.Proofs.YtlmcefhpnfoahaaW.PrintMore
set_option linter.unusedVariables false
set_option linter.unusedSimpArgs false

def KP4.T9 : Bool × List (List Nat × List Nat) := (true, [([], []), ([0], [0]), ([], []), ([2], [2]), ([1, 3], [1, 3]), ([], []), ([], []), ([5, 6], [5, 6]), ([4, 7], [4, 7]), ([8, 7], [8]), ([9], [9]), ([10, 9], [9, 10]), ([9], [9]), ([12, 9], [9, 12]), ([11, 13, 9], [9, 11, 13]), ([9], [9]), ([9], [9]), ([15, 16, 9, 9], [9, 15, 16]), ([14, 17, 9], [9, 14, 17]), ([9, 18], [9, 18]), ([19, 17], [19]), ([20, 20], [20]), ([20, 21], [20, 21]), ([22, 21, 0, 1, 2, 3, 4, 5, 6, 7, 8, 9, 10, 11, 12, 13, 14, 15, 16, 17, 18, 19, 20, 21, 22], [22])])
def KP4.B9 : List Nat := [0, 1, 0, 4, 15, 0, 0, 96, 255, 511, 1023, 2047, 1023, 5119, 16383, 1023, 1023, 99327, 262143, 524287, 1048575, 2097151, 4194303, 8388607]
theorem KP4.tab9 : rtab .any (opsOf Try.f4 9) = KP4.T9 := by kernel_rfl
theorem KP4.bits9 : waitsOk KP4.T9.2 KP4.B9 = true := by kernel_rfl
set_option maxRecDepth 100000 in
set_option maxHeartbeats 3200000 in
theorem walk_KeyOrders (A0 : Option Addr) (c0 : Nat) (l0 : List S39) (A1 : Option Addr) (c1 : Nat) (l1 : List S39) (w : World) (hr0 : Kd.C k39 w A0 l0.length l0) (hc0 : l0.length ≤ c0) (hm0 : l0.length ≤ maxLen) (hw0 : ∀ x ∈ l0, okVal x)
    (hr1 : Kd.C k39 w A1 l1.length l1) (hc1 : l1.length ≤ c1) (hm1 : l1.length ≤ maxLen) (hw1 : ∀ x ∈ l1, okVal x) :
    Calls Try.prog 4 #[.slice A0 l0.length c0, .slice A1 l1.length c1] w fun e w' => e = .returned (.bool true) ∧ Below w.heap.size w w' := by
  have HR0 := Aside0.mk hr0
  have HR1 := Aside0.mk hr1
  have HV0 := Aside0.mk hw0
  have HV1 := Aside0.mk hw1
  have HM0 := Aside0.mk hm0
  have HM1 := Aside0.mk hm1
  clear hr0 hr1 hw0 hw1 hm0 hm1
  have HB := Aside0.mk (Below.refl w.heap.size w)
  obtain ⟨r0, hl0, hs0⟩ := long_some l0
  obtain ⟨r1, hl1, hs1⟩ := long_some l1
  have C29a : Aside0 (∀ W : World, Below w.heap.size w W → Calls Try.prog 29 #[.slice A0 l0.length c0] W fun e W2 => e = .returned (.bool r0) ∧ Below w.heap.size w W2) := ⟨fun W hW =>
    (tidelinelaw03_long.calls 32 _ _ l0 r0 _ (Kd.C_below HR0.out hW) hc0 hl0).mono fun e W2 ⟨h1, h2⟩ => ⟨h1, below_then hW hW.size h2.below⟩⟩
  have C29b : Aside0 (∀ W : World, Below w.heap.size w W → Calls Try.prog 29 #[.slice A1 l1.length c1] W fun e W2 => e = .returned (.bool r1) ∧ Below w.heap.size w W2) := ⟨fun W hW =>
    (tidelinelaw03_long.calls 32 _ _ l1 r1 _ (Kd.C_below HR1.out hW) hc1 hl1).mono fun e W2 ⟨h1, h2⟩ => ⟨h1, below_then hW hW.size h2.below⟩⟩
  have C33 : Aside0 (∀ W : World, Below w.heap.size w W → Calls Try.prog 33 #[] W fun e W2 => e = .returned (.bool true) ∧ Below w.heap.size w W2) := ⟨fun W hW =>
    (tidelinelaw03_keys.calls true _ keys_true).mono fun e W2 ⟨h1, h2⟩ => ⟨h1, below_then hW hW.size h2⟩⟩
  cases r0 with
  | true =>
    clear hl0 hs0 hl1 hs1
    go_enter Try.func4, Try.ntmps4
    go_wp2_with (first
      | (go_at_call_of 29 A0; refine (C29a.out _ HB.out).mono ?_; rintro e w1 ⟨rfl, hb_⟩; have HB1 := Aside0.mk hb_; clear hb_))
    go_ret
    exact ⟨rfl, HB1.out⟩
  | false =>
    cases r1 with
    | true =>
      clear hl0 hs0 hl1 hs1
      go_enter Try.func4, Try.ntmps4
      go_wp2_with (first
        | (go_at_call_of 29 A0; refine (C29a.out _ HB.out).mono ?_; rintro e w1 ⟨rfl, hb_⟩; have HB1 := Aside0.mk hb_; clear hb_)
        | (go_at_call_of 29 A1; refine (C29b.out _ HB1.out).mono ?_; rintro e w2 ⟨rfl, hb_⟩; have HB2 := Aside0.mk hb_; clear hb_))
      go_ret
      exact ⟨rfl, HB2.out⟩
    | false =>
      obtain ⟨h30, h300⟩ := hs0 rfl
      obtain ⟨g30, g300⟩ := hs1 rfl
      have hR0 := encR_le l0 h300
      have hR1 := encR_le l1 g300
      have hn0 := okNum_of l0 HV0.out
      have hn1 := okNum_of l1 HV1.out
      have HN := Aside0.mk (And.intro h30 g30)
      have HO := Aside0.mk (And.intro hn0 hn1)
      have hA0 := append_f l0 (by omega) hn0
      have hA1 := append_f l1 (by omega) hn1
      clear hl0 hs0 hl1 hs1 h300 g300 hn0 hn1 h30 g30 hR0 hR1
      obtain ⟨m0, hm0⟩ : ∃ m, m = l0.all mayB := ⟨_, rfl⟩
      obtain ⟨m1, hm1⟩ : ∃ m, m = l1.all mayB := ⟨_, rfl⟩
      have HL0 : Aside0 (tidelinelaw03_may.f (l0.length + 1) l0 = some m0) := ⟨by rw [hm0]; exact lawMay l0 HM0.out HV0.out⟩
      have HL1 : Aside0 (tidelinelaw03_may.f (l1.length + 1) l1 = some m1) := ⟨by rw [hm1]; exact lawMay l1 HM1.out HV1.out⟩
      rw [← hm0] at hA0
      rw [← hm1] at hA1
      have HMM := Aside0.mk (And.intro hm0 hm1)
      clear hm0 hm1
      by_cases hboth : m0 = true ∧ m1 = true
      · obtain ⟨rfl, rfl⟩ := hboth
        rw [if_pos rfl] at hA0 hA1
        obtain ⟨X0, hX0⟩ : ∃ x, x = encR l0 := ⟨_, rfl⟩
        obtain ⟨X1, hX1⟩ : ∃ x, x = encR l1 := ⟨_, rfl⟩
        obtain ⟨E0, hE0⟩ : ∃ e : Int, e = 0 := ⟨_, rfl⟩
        obtain ⟨E1, hE1⟩ : ∃ e : Int, e = 0 := ⟨_, rfl⟩
        rw [← hX0, ← hE0] at hA0
        rw [← hX1, ← hE1] at hA1
        have HA0 := Aside0.mk hA0
        have HA1 := Aside0.mk hA1
        have HXX := Aside0.mk (And.intro hX0 hX1)
        clear hA0 hA1 hX0 hX1
        subst hE0
        subst hE1
        go_enter Try.func4, Try.ntmps4
        go_wp2_with (first
          | (go_at_call_of 29 A0; refine (C29a.out _ HB.out).mono ?_; rintro e w1 ⟨rfl, hb_⟩; have HB1 := Aside0.mk hb_; clear hb_)
                  | (go_at_call_of 29 A1; refine (C29b.out _ HB1.out).mono ?_; rintro e w2 ⟨rfl, hb_⟩; have HB2 := Aside0.mk hb_; clear hb_)
                  | (go_at_call_of 30 A0; refine (key_Append.calls none 0 ([] : List Int) A0 c0 l0 _ _ _ (Kd.C_nil _ _) (Nat.le_refl _) (Kd.C_below HR0.out HB2.out) hc0 HA0.out).mono ?_; rintro e w3 ⟨v_, rfl, hr_, hd_⟩; have HX := Aside0.mk (Own.made HB2.out HB2.out.size hr_ hd_); obtain ⟨Ax, nx, cx, e_, hn_, hcx, hC_⟩ := HX.out.sl'; subst e_; clear hn_ hC_; clear hr_ hd_)
                  | (go_at_call_of 30 A1; refine (key_Append.calls none 0 ([] : List Int) A1 c1 l1 _ _ _ (Kd.C_nil _ _) (Nat.le_refl _) (Kd.C_below HR1.out HX.out.b) hc1 HA1.out).mono ?_; rintro e w4 ⟨v_, rfl, hr_, hd_⟩; have HY := Aside0.mk (Own.made HX.out.b HX.out.s hr_ hd_); obtain ⟨Ay, ny, cy, e_, hn_, hcy, hC_⟩ := HY.out.sl'; subst e_; clear hn_ hC_; have HX2 := Aside0.mk (HX.out.step hd_); clear hr_ hd_)
                  | (go_at_call_of 34 A0; refine ((tidelinelaw03_may.calls (l0.length + 1) _ _ l0 _ _ (Kd.C_below HR0.out HY.out.b) hc0 HL0.out)).mono ?_; rintro e w5 ⟨rfl, hb_⟩; have HX5 := Aside0.mk (HX2.out.step hb_); have HY5 := Aside0.mk (HY.out.step hb_); clear hb_)
                  | (go_at_call_of 34 A1; refine ((tidelinelaw03_may.calls (l1.length + 1) _ _ l1 _ _ (Kd.C_below HR1.out HY5.out.b) hc1 HL1.out)).mono ?_; rintro e w6 ⟨rfl, hb_⟩; have HX6 := Aside0.mk (HX5.out.step hb_); have HY6 := Aside0.mk (HY5.out.step hb_); have HB6 := Aside0.mk HY6.out.b; clear hb_)
                  | (go_at_call 33; refine (C33.out _ HB6.out).mono ?_; rintro e w7 ⟨rfl, hb_⟩; have HB7 := Aside0.mk hb_; clear hb_)
                  | (go_at_call 33; refine (C33.out _ HY5.out.b).mono ?_; rintro e w7 ⟨rfl, hb_⟩; have HB7 := Aside0.mk hb_; clear hb_))
        obtain ⟨s0, hs0⟩ : ∃ s, s = strOfNums X0 := ⟨_, rfl⟩
        obtain ⟨s1, hs1⟩ : ∃ s, s = strOfNums X1 := ⟨_, rfl⟩
        obtain ⟨rr, hrr⟩ : ∃ b, b = lx X0 X1 := ⟨_, rfl⟩
        obtain ⟨rs, hrs⟩ : ∃ b, b = (s0.toList == s1.toList) := ⟨_, rfl⟩
        obtain ⟨rw0, hrw, hrw2⟩ := refSame l0 l1 HM0.out
        have hless : Op.bytesLess s0.toList s1.toList = rr := by
          rw [hs0, hs1, hrr, HXX.out.1, HXX.out.2]
          exact lx_strs _ _ (encR_bytes _) (encR_bytes _)
        have hsame : rw0 = rs := by
          rw [Bool.eq_iff_iff, hrw2, hrs, beq_iff_eq]
          constructor
          · intro e
            rw [hs0, hs1, HXX.out.1, HXX.out.2, e]
          · intro e
            refine encR_inj _ _ HMM.out.1.symm HMM.out.2.symm HO.out.1 HO.out.2 ?_
            rw [hs0, hs1, HXX.out.1, HXX.out.2] at e
            have e2 : strOfNums (encR l0) = strOfNums (encR l1) := (ext39 (x := ⟨0, 0, strOfNums (encR l0)⟩) (y := ⟨0, 0, strOfNums (encR l1)⟩) rfl rfl e) |> congrArg S39.f2
            rw [← bytesOf_strOfNums _ (encR_bytes l0), ← bytesOf_strOfNums _ (encR_bytes l1), e2]
        subst hsame
        have HSX : Aside0 (∀ W : World, Below w6.heap.size w6 W → (convert 22 9 (.slice Ax nx cx)).run Try.prog W = .ok (.string s0) W) := ⟨fun W hW => by rw [hs0]; exact (HX6.out.step hW).str⟩
        have HSY : Aside0 (∀ W : World, Below w6.heap.size w6 W → (convert 22 9 (.slice Ay ny cy)).run Try.prog W = .ok (.string s1) W) := ⟨fun W hW => by rw [hs1]; exact (HY6.out.step hW).str⟩
        have D35 : Aside0 (∀ W : World, Below w6.heap.size w6 W → Calls Try.prog 35 #[.slice A0 l0.length c0, .slice A1 l1.length c1] W fun e W2 => e = .returned (.bool rr) ∧ Below w6.heap.size w6 W2) := ⟨fun W hW =>
          (tidelineref03_Rows.calls (2 * l0.length + 2) _ _ l0 _ _ l1 rr _ (Kd.C_below HR0.out (below_then HB6.out HB6.out.size hW)) hc0 (Kd.C_below HR1.out (below_then HB6.out HB6.out.size hW)) hc1 (by
            rw [hrr, HXX.out.1, HXX.out.2]
            exact refRows l0 l1 (by have := HN.out.1; omega) (by have := HN.out.2; omega) HMM.out.1.symm HMM.out.2.symm HO.out.1 HO.out.2)).mono fun e W2 ⟨h1, h2⟩ => ⟨h1, below_then hW hW.size h2⟩⟩
        have D32 : Aside0 (∀ W : World, Below w6.heap.size w6 W → Calls Try.prog 32 #[.slice A0 l0.length c0, .slice A1 l1.length c1] W fun e W2 => e = .returned (.bool rw0) ∧ Below w6.heap.size w6 W2) := ⟨fun W hW =>
          (tidelineref03_Same.calls (l0.length + 1) _ _ l0 _ _ l1 rw0 _ (Kd.C_below HR0.out (below_then HB6.out HB6.out.size hW)) hc0 (Kd.C_below HR1.out (below_then HB6.out HB6.out.size hW)) hc1 hrw).mono fun e W2 ⟨h1, h2⟩ => ⟨h1, below_then hW hW.size h2.below⟩⟩
        have D33 : Aside0 (∀ W : World, Below w6.heap.size w6 W → Calls Try.prog 33 #[] W fun e W2 => e = .returned (.bool true) ∧ Below w6.heap.size w6 W2) := ⟨fun W hW =>
          (tidelinelaw03_keys.calls true _ keys_true).mono fun e W2 ⟨h1, h2⟩ => ⟨h1, below_then hW hW.size h2⟩⟩
        have B6 := Aside0.mk (below_drew1 (Below.refl w6.heap.size w6))
        have heq : (s0.toList == s1.toList) = rw0 := hrs.symm
        clear hrs hrr hrw hrw2 hs0 hs1
        refine start_ (n := 24) (S := fun W => Below w6.heap.size w6 W ∧ (convert 22 9 (.slice Ax nx cx)).run Try.prog W = .ok (.string s0) W ∧ (convert 22 9 (.slice Ay ny cy)).run Try.prog W = .ok (.string s1) W) (ds := []) #[false, false, false, false, false, false, false, false, false, false, false, false, false, false, false, false, false, false, false, false, false, false, false, false] (by kernel_rfl) rfl rfl (⟨B6.out, HSX.out _ B6.out, HSY.out _ B6.out⟩) (fun hHeld => ?_)
        refine with_tabW KP4.tab9 KP4.bits9 (fun HT_ HW_ => ?_)
        refine pure_ (i := 0) (N := some 44) (v := ?_) (a' := ?_) #[true, false, false, false, false, false, false, false, false, false, false, false, false, false, false, false, false, false, false, false, false, false, false, false] rfl rfl (any_of HT_.out (by kernel_rfl)) (fun _ _ _ h => h) (Or.inl ⟨by rfl, ?_⟩) ?_ ?_
        rotate_left
        · intro w'
          go_simp
          with_reducible rfl
        rotate_left
        · simp only [Act.put, List.setIfInBounds_toArray, List.set_cons_zero, List.set_cons_succ, i64_w, i32_w]
          rfl
        refine take_ (i := 1) (N := some 45) (v := ?_) (a' := ?_) #[true, true, false, false, false, false, false, false, false, false, false, false, false, false, false, false, false, false, false, false, false, false, false, false] rfl rfl (take_ofW HT_.out HW_.out (by kernel_rfl)) (fun _ _ _ h => h) (Or.inl ⟨by rfl, ?_⟩) hHeld ?_ ?_
        rotate_left
        · intro w' s0
          (try dsimp only at s0)
          (try go_split_ands)
          go_simp
          with_reducible rfl
        rotate_left
        · simp only [Act.put, List.setIfInBounds_toArray, List.set_cons_zero, List.set_cons_succ, i64_w, i32_w]
          rfl
        refine pure_ (i := 2) (N := some 46) (v := ?_) (a' := ?_) #[true, true, true, false, false, false, false, false, false, false, false, false, false, false, false, false, false, false, false, false, false, false, false, false] rfl rfl (any_of HT_.out (by kernel_rfl)) (fun _ _ _ h => h) (Or.inl ⟨by rfl, ?_⟩) ?_ ?_
        rotate_left
        · intro w'
          go_simp
          with_reducible rfl
        rotate_left
        · simp only [Act.put, List.setIfInBounds_toArray, List.set_cons_zero, List.set_cons_succ, i64_w, i32_w]
          rfl
        refine take_ (i := 3) (N := some 47) (v := ?_) (a' := ?_) #[true, true, true, true, false, false, false, false, false, false, false, false, false, false, false, false, false, false, false, false, false, false, false, false] rfl rfl (take_ofW HT_.out HW_.out (by kernel_rfl)) (fun _ _ _ h => h) (Or.inl ⟨by rfl, ?_⟩) hHeld ?_ ?_
        rotate_left
        · intro w' s0
          (try dsimp only at s0)
          (try go_split_ands)
          go_simp
          with_reducible rfl
        rotate_left
        · simp only [Act.put, List.setIfInBounds_toArray, List.set_cons_zero, List.set_cons_succ, i64_w, i32_w]
          rfl
        refine pure_ (i := 4) (N := some 48) (v := ?_) (a' := ?_) #[true, true, true, true, true, false, false, false, false, false, false, false, false, false, false, false, false, false, false, false, false, false, false, false] rfl rfl (any_of HT_.out (by kernel_rfl)) (fun _ _ _ h => h) (Or.inl ⟨by rfl, ?_⟩) ?_ ?_
        rotate_left
        · intro w'
          go_simp
          with_reducible rfl
        rotate_left
        · simp only [Act.put, List.setIfInBounds_toArray, List.set_cons_zero, List.set_cons_succ, i64_w, i32_w]
          rfl
        refine pure_ (i := 5) (N := some 49) (v := ?_) (a' := ?_) #[true, true, true, true, true, true, false, false, false, false, false, false, false, false, false, false, false, false, false, false, false, false, false, false] rfl rfl (any_of HT_.out (by kernel_rfl)) (fun _ _ _ h => h) (Or.inl ⟨by rfl, ?_⟩) ?_ ?_
        rotate_left
        · intro w'
          go_simp
          with_reducible rfl
        rotate_left
        · simp only [Act.put, List.setIfInBounds_toArray, List.set_cons_zero, List.set_cons_succ, i64_w, i32_w]
          rfl
        refine pure_ (i := 6) (N := some 50) (v := ?_) (a' := ?_) #[true, true, true, true, true, true, true, false, false, false, false, false, false, false, false, false, false, false, false, false, false, false, false, false] rfl rfl (any_of HT_.out (by kernel_rfl)) (fun _ _ _ h => h) (Or.inl ⟨by rfl, ?_⟩) ?_ ?_
        rotate_left
        · intro w'
          go_simp
          with_reducible rfl
        rotate_left
        · simp only [Act.put, List.setIfInBounds_toArray, List.set_cons_zero, List.set_cons_succ, i64_w, i32_w]
          rfl
        refine one_ (i := 7) (N := some 51) #[true, true, true, true, true, true, true, true, false, false, false, false, false, false, false, false, false, false, false, false, false, false, false, false] rfl rfl (one_of HT_.out (by kernel_rfl)) (by decide) (fun K hK => ?_)
        refine goes_ Try.func35 (by kernel_rfl) rfl #[.slice A0 l0.length c0, .slice A1 l1.length c1] (by rfl) rfl rfl (by (try simp only [List.map_toArray, List.map_cons, List.map_nil]); first | done | rfl) ?_
        refine (D35.out _ B6.out).mono ?_
        rintro e w7 ⟨rfl, hb_⟩
        have B7 := Aside0.mk hb_
        clear hb_
        refine ⟨_, rfl, ?_⟩
        refine hK.out _ _ (⟨B7.out, HSX.out _ B7.out, HSY.out _ B7.out⟩) (fun hHeld => ?_)
        clear hK K
        refine norm_ (a' := ?_) ?_ ?_
        rotate_left
        · show Act.put _ (some 51) _ = _
          simp only [Act.put, List.setIfInBounds_toArray, List.set_cons_zero, List.set_cons_succ, i64_w, i32_w]
          rfl
        refine pure_ (i := 8) (N := some 52) (v := ?_) (a' := ?_) #[true, true, true, true, true, true, true, true, true, false, false, false, false, false, false, false, false, false, false, false, false, false, false, false] rfl rfl (any_of HT_.out (by kernel_rfl)) (fun _ _ _ h => h) (Or.inl ⟨by rfl, ?_⟩) ?_ ?_
        rotate_left
        · intro w'
          go_simp
          with_reducible rfl
        rotate_left
        · simp only [Act.put, List.setIfInBounds_toArray, List.set_cons_zero, List.set_cons_succ, i64_w, i32_w]
          rfl
        refine pure_ (i := 9) (N := some 53) (v := ?_) (a' := ?_) #[true, true, true, true, true, true, true, true, true, true, false, false, false, false, false, false, false, false, false, false, false, false, false, false] rfl rfl (any_of HT_.out (by kernel_rfl)) (fun _ _ _ h => h) (Or.inl ⟨by rfl, ?_⟩) ?_ ?_
        rotate_left
        · intro w'
          go_simp
          with_reducible rfl
        rotate_left
        · simp only [Act.put, List.setIfInBounds_toArray, List.set_cons_zero, List.set_cons_succ, i64_w, i32_w]
          rfl
        refine pure_ (i := 10) (N := some 54) (v := ?_) (a' := ?_) #[true, true, true, true, true, true, true, true, true, true, true, false, false, false, false, false, false, false, false, false, false, false, false, false] rfl rfl (any_of HT_.out (by kernel_rfl)) (fun _ _ _ h => h) (Or.inl ⟨by rfl, ?_⟩) ?_ ?_
        rotate_left
        · intro w'
          go_simp
          with_reducible rfl
        rotate_left
        · simp only [Act.put, List.setIfInBounds_toArray, List.set_cons_zero, List.set_cons_succ, i64_w, i32_w]
          rfl
        refine take_ (i := 11) (N := some 55) (v := ?_) (a' := ?_) #[true, true, true, true, true, true, true, true, true, true, true, true, false, false, false, false, false, false, false, false, false, false, false, false] rfl rfl (take_ofW HT_.out HW_.out (by kernel_rfl)) (fun _ _ _ h => h) (Or.inl ⟨by rfl, ?_⟩) hHeld ?_ ?_
        rotate_left
        · intro w' s0
          (try dsimp only at s0)
          (try go_split_ands)
          go_simp
          with_reducible rfl
        rotate_left
        · simp only [Act.put, List.setIfInBounds_toArray, List.set_cons_zero, List.set_cons_succ, i64_w, i32_w]
          rfl
        refine pure_ (i := 12) (N := some 56) (v := ?_) (a' := ?_) #[true, true, true, true, true, true, true, true, true, true, true, true, true, false, false, false, false, false, false, false, false, false, false, false] rfl rfl (any_of HT_.out (by kernel_rfl)) (fun _ _ _ h => h) (Or.inl ⟨by rfl, ?_⟩) ?_ ?_
        rotate_left
        · intro w'
          go_simp
          with_reducible rfl
        rotate_left
        · simp only [Act.put, List.setIfInBounds_toArray, List.set_cons_zero, List.set_cons_succ, i64_w, i32_w]
          rfl
        refine take_ (i := 13) (N := some 57) (v := ?_) (a' := ?_) #[true, true, true, true, true, true, true, true, true, true, true, true, true, true, false, false, false, false, false, false, false, false, false, false] rfl rfl (take_ofW HT_.out HW_.out (by kernel_rfl)) (fun _ _ _ h => h) (Or.inl ⟨by rfl, ?_⟩) hHeld ?_ ?_
        rotate_left
        · intro w' s0
          (try dsimp only at s0)
          (try go_split_ands)
          go_simp
          with_reducible rfl
        rotate_left
        · simp only [Act.put, List.setIfInBounds_toArray, List.set_cons_zero, List.set_cons_succ, i64_w, i32_w]
          rfl
        refine pure_ (i := 14) (N := some 58) (v := ?_) (a' := ?_) #[true, true, true, true, true, true, true, true, true, true, true, true, true, true, true, false, false, false, false, false, false, false, false, false] rfl rfl (any_of HT_.out (by kernel_rfl)) (fun _ _ _ h => h) (Or.inl ⟨by rfl, ?_⟩) ?_ ?_
        rotate_left
        · intro w'
          go_simp
          with_reducible rfl
        rotate_left
        · simp only [Act.put, List.setIfInBounds_toArray, List.set_cons_zero, List.set_cons_succ, i64_w, i32_w]
          rfl
        refine pure_ (i := 15) (N := some 59) (v := ?_) (a' := ?_) #[true, true, true, true, true, true, true, true, true, true, true, true, true, true, true, true, false, false, false, false, false, false, false, false] rfl rfl (any_of HT_.out (by kernel_rfl)) (fun _ _ _ h => h) (Or.inl ⟨by rfl, ?_⟩) ?_ ?_
        rotate_left
        · intro w'
          go_simp
          with_reducible rfl
        rotate_left
        · simp only [Act.put, List.setIfInBounds_toArray, List.set_cons_zero, List.set_cons_succ, i64_w, i32_w]
          rfl
        refine pure_ (i := 16) (N := some 60) (v := ?_) (a' := ?_) #[true, true, true, true, true, true, true, true, true, true, true, true, true, true, true, true, true, false, false, false, false, false, false, false] rfl rfl (any_of HT_.out (by kernel_rfl)) (fun _ _ _ h => h) (Or.inl ⟨by rfl, ?_⟩) ?_ ?_
        rotate_left
        · intro w'
          go_simp
          with_reducible rfl
        rotate_left
        · simp only [Act.put, List.setIfInBounds_toArray, List.set_cons_zero, List.set_cons_succ, i64_w, i32_w]
          rfl
        refine one_ (i := 17) (N := some 61) #[true, true, true, true, true, true, true, true, true, true, true, true, true, true, true, true, true, true, false, false, false, false, false, false] rfl rfl (one_of HT_.out (by kernel_rfl)) (by decide) (fun K hK => ?_)
        refine goes_ Try.func32 (by kernel_rfl) rfl #[.slice A0 l0.length c0, .slice A1 l1.length c1] (by rfl) rfl rfl (by (try simp only [List.map_toArray, List.map_cons, List.map_nil]); first | done | rfl) ?_
        refine (D32.out _ B7.out).mono ?_
        rintro e w8 ⟨rfl, hb_⟩
        have B8 := Aside0.mk hb_
        clear hb_
        refine ⟨_, rfl, ?_⟩
        refine hK.out _ _ (⟨B8.out, HSX.out _ B8.out, HSY.out _ B8.out⟩) (fun hHeld => ?_)
        clear hK K
        refine norm_ (a' := ?_) ?_ ?_
        rotate_left
        · show Act.put _ (some 61) _ = _
          simp only [Act.put, List.setIfInBounds_toArray, List.set_cons_zero, List.set_cons_succ, i64_w, i32_w]
          rfl
        refine pure_ (i := 18) (N := some 62) (v := ?_) (a' := ?_) #[true, true, true, true, true, true, true, true, true, true, true, true, true, true, true, true, true, true, true, false, false, false, false, false] rfl rfl (any_of HT_.out (by kernel_rfl)) (fun _ _ _ h => h) (Or.inl ⟨by rfl, ?_⟩) ?_ ?_
        rotate_left
        · intro w'
          go_simp
          with_reducible rfl
        rotate_left
        · simp only [Act.put, List.setIfInBounds_toArray, List.set_cons_zero, List.set_cons_succ, i64_w, i32_w]
          rfl
        refine pure_ (i := 19) (N := some 63) (v := ?_) (a' := ?_) #[true, true, true, true, true, true, true, true, true, true, true, true, true, true, true, true, true, true, true, true, false, false, false, false] rfl rfl (any_of HT_.out (by kernel_rfl)) (fun _ _ _ h => h) (Or.inl ⟨by rfl, ?_⟩) ?_ ?_
        rotate_left
        · intro w'
          go_simp
          with_reducible rfl
        rotate_left
        · simp only [Act.put, List.setIfInBounds_toArray, List.set_cons_zero, List.set_cons_succ, i64_w, i32_w]
          rfl
        refine pure_ (i := 20) (N := some 64) (v := ?_) (a' := ?_) #[true, true, true, true, true, true, true, true, true, true, true, true, true, true, true, true, true, true, true, true, true, false, false, false] rfl rfl (any_of HT_.out (by kernel_rfl)) (fun _ _ _ h => h) (Or.inl ⟨by rfl, ?_⟩) ?_ ?_
        rotate_left
        · intro w'
          go_simp
          with_reducible rfl
        rotate_left
        · simp only [Act.put, List.setIfInBounds_toArray, List.set_cons_zero, List.set_cons_succ, i64_w, i32_w]
          rfl
        refine one_ (i := 21) (N := some 65) #[true, true, true, true, true, true, true, true, true, true, true, true, true, true, true, true, true, true, true, true, true, true, false, false] rfl rfl (one_of HT_.out (by kernel_rfl)) (by decide) (fun K hK => ?_)
        refine goes_ Try.func33 (by kernel_rfl) rfl #[] (by rfl) rfl rfl (by (try simp only [List.map_toArray, List.map_cons, List.map_nil]); first | done | rfl) ?_
        refine (D33.out _ B8.out).mono ?_
        rintro e w9 ⟨rfl, hb_⟩
        have B9 := Aside0.mk hb_
        clear hb_
        refine ⟨_, rfl, ?_⟩
        refine hK.out _ _ (⟨B9.out, HSX.out _ B9.out, HSY.out _ B9.out⟩) (fun hHeld => ?_)
        clear hK K
        refine norm_ (a' := ?_) ?_ ?_
        rotate_left
        · show Act.put _ (some 65) _ = _
          simp only [Act.put, List.setIfInBounds_toArray, List.set_cons_zero, List.set_cons_succ, i64_w, i32_w]
          rfl
        refine pure_ (i := 22) (N := some 66) (v := ?_) (a' := ?_) #[true, true, true, true, true, true, true, true, true, true, true, true, true, true, true, true, true, true, true, true, true, true, true, false] rfl rfl (any_of HT_.out (by kernel_rfl)) (fun _ _ _ h => h) (Or.inl ⟨by rfl, ?_⟩) ?_ ?_
        rotate_left
        · intro w'
          go_simp
          with_reducible rfl
        rotate_left
        · simp only [Act.put, List.setIfInBounds_toArray, List.set_cons_zero, List.set_cons_succ, i64_w, i32_w]
          rfl
        refine pure_ (i := 23) (N := some 4) (v := ?_) (a' := ?_) #[true, true, true, true, true, true, true, true, true, true, true, true, true, true, true, true, true, true, true, true, true, true, true, true] rfl rfl (any_of HT_.out (by kernel_rfl)) (fun _ _ _ h => h) (Or.inl ⟨by rfl, ?_⟩) ?_ ?_
        rotate_left
        · intro w'
          go_simp
          with_reducible rfl
        rotate_left
        · simp only [Act.put, List.setIfInBounds_toArray, List.set_cons_zero, List.set_cons_succ, i64_w, i32_w]
          rfl
        refine done_ (done_of HT_.out (by kernel_rfl)) ?_
        go_wp2_with fail
        go_ret
        exact ⟨rfl, below_then HB6.out HB6.out.size B9.out⟩
      · obtain ⟨⟨X0, E0⟩, hX0⟩ : ∃ p : List Int × Int, p = if m0 = true then (encR l0, 0) else ([], 1) := ⟨_, rfl⟩
        obtain ⟨⟨X1, E1⟩, hX1⟩ : ∃ p : List Int × Int, p = if m1 = true then (encR l1, 0) else ([], 1) := ⟨_, rfl⟩
        rw [← hX0] at hA0
        rw [← hX1] at hA1
        have HA0 := Aside0.mk hA0
        have HA1 := Aside0.mk hA1
        clear hA0 hA1
        cases m0 with
        | false =>
          rw [if_neg (by decide)] at hX0
          obtain ⟨rfl, rfl⟩ := Prod.mk.inj hX0
          cases m1 with
          | false =>
            rw [if_neg (by decide)] at hX1
            obtain ⟨rfl, rfl⟩ := Prod.mk.inj hX1
            clear hX0 hX1 hboth
            go_enter Try.func4, Try.ntmps4
            go_wp2_with (first
              | (go_at_call_of 29 A0; refine (C29a.out _ HB.out).mono ?_; rintro e w1 ⟨rfl, hb_⟩; have HB1 := Aside0.mk hb_; clear hb_)
                  | (go_at_call_of 29 A1; refine (C29b.out _ HB1.out).mono ?_; rintro e w2 ⟨rfl, hb_⟩; have HB2 := Aside0.mk hb_; clear hb_)
                  | (go_at_call_of 30 A0; refine (key_Append.calls none 0 ([] : List Int) A0 c0 l0 _ _ _ (Kd.C_nil _ _) (Nat.le_refl _) (Kd.C_below HR0.out HB2.out) hc0 HA0.out).mono ?_; rintro e w3 ⟨v_, rfl, hr_, hd_⟩; have HX := Aside0.mk (Own.made HB2.out HB2.out.size hr_ hd_); obtain ⟨Ax, nx, cx, e_, hn_, hcx, hC_⟩ := HX.out.sl'; subst e_; clear hn_ hC_; clear hr_ hd_)
                  | (go_at_call_of 30 A1; refine (key_Append.calls none 0 ([] : List Int) A1 c1 l1 _ _ _ (Kd.C_nil _ _) (Nat.le_refl _) (Kd.C_below HR1.out HX.out.b) hc1 HA1.out).mono ?_; rintro e w4 ⟨v_, rfl, hr_, hd_⟩; have HY := Aside0.mk (Own.made HX.out.b HX.out.s hr_ hd_); obtain ⟨Ay, ny, cy, e_, hn_, hcy, hC_⟩ := HY.out.sl'; subst e_; clear hn_ hC_; have HX2 := Aside0.mk (HX.out.step hd_); clear hr_ hd_)
                  | (go_at_call_of 34 A0; refine ((tidelinelaw03_may.calls (l0.length + 1) _ _ l0 _ _ (Kd.C_below HR0.out HY.out.b) hc0 HL0.out)).mono ?_; rintro e w5 ⟨rfl, hb_⟩; have HX5 := Aside0.mk (HX2.out.step hb_); have HY5 := Aside0.mk (HY.out.step hb_); clear hb_)
                  | (go_at_call_of 34 A1; refine ((tidelinelaw03_may.calls (l1.length + 1) _ _ l1 _ _ (Kd.C_below HR1.out HY5.out.b) hc1 HL1.out)).mono ?_; rintro e w6 ⟨rfl, hb_⟩; have HX6 := Aside0.mk (HX5.out.step hb_); have HY6 := Aside0.mk (HY5.out.step hb_); have HB6 := Aside0.mk HY6.out.b; clear hb_)
                  | (go_at_call 33; refine (C33.out _ HB6.out).mono ?_; rintro e w7 ⟨rfl, hb_⟩; have HB7 := Aside0.mk hb_; clear hb_)
                  | (go_at_call 33; refine (C33.out _ HY5.out.b).mono ?_; rintro e w7 ⟨rfl, hb_⟩; have HB7 := Aside0.mk hb_; clear hb_))
            go_ret
            exact ⟨rfl, HB7.out⟩
          | true =>
            rw [if_pos rfl] at hX1
            obtain ⟨rfl, rfl⟩ := Prod.mk.inj hX1
            clear hX0 hX1 hboth
            go_enter Try.func4, Try.ntmps4
            go_wp2_with (first
              | (go_at_call_of 29 A0; refine (C29a.out _ HB.out).mono ?_; rintro e w1 ⟨rfl, hb_⟩; have HB1 := Aside0.mk hb_; clear hb_)
                  | (go_at_call_of 29 A1; refine (C29b.out _ HB1.out).mono ?_; rintro e w2 ⟨rfl, hb_⟩; have HB2 := Aside0.mk hb_; clear hb_)
                  | (go_at_call_of 30 A0; refine (key_Append.calls none 0 ([] : List Int) A0 c0 l0 _ _ _ (Kd.C_nil _ _) (Nat.le_refl _) (Kd.C_below HR0.out HB2.out) hc0 HA0.out).mono ?_; rintro e w3 ⟨v_, rfl, hr_, hd_⟩; have HX := Aside0.mk (Own.made HB2.out HB2.out.size hr_ hd_); obtain ⟨Ax, nx, cx, e_, hn_, hcx, hC_⟩ := HX.out.sl'; subst e_; clear hn_ hC_; clear hr_ hd_)
                  | (go_at_call_of 30 A1; refine (key_Append.calls none 0 ([] : List Int) A1 c1 l1 _ _ _ (Kd.C_nil _ _) (Nat.le_refl _) (Kd.C_below HR1.out HX.out.b) hc1 HA1.out).mono ?_; rintro e w4 ⟨v_, rfl, hr_, hd_⟩; have HY := Aside0.mk (Own.made HX.out.b HX.out.s hr_ hd_); obtain ⟨Ay, ny, cy, e_, hn_, hcy, hC_⟩ := HY.out.sl'; subst e_; clear hn_ hC_; have HX2 := Aside0.mk (HX.out.step hd_); clear hr_ hd_)
                  | (go_at_call_of 34 A0; refine ((tidelinelaw03_may.calls (l0.length + 1) _ _ l0 _ _ (Kd.C_below HR0.out HY.out.b) hc0 HL0.out)).mono ?_; rintro e w5 ⟨rfl, hb_⟩; have HX5 := Aside0.mk (HX2.out.step hb_); have HY5 := Aside0.mk (HY.out.step hb_); clear hb_)
                  | (go_at_call_of 34 A1; refine ((tidelinelaw03_may.calls (l1.length + 1) _ _ l1 _ _ (Kd.C_below HR1.out HY5.out.b) hc1 HL1.out)).mono ?_; rintro e w6 ⟨rfl, hb_⟩; have HX6 := Aside0.mk (HX5.out.step hb_); have HY6 := Aside0.mk (HY5.out.step hb_); have HB6 := Aside0.mk HY6.out.b; clear hb_)
                  | (go_at_call 33; refine (C33.out _ HB6.out).mono ?_; rintro e w7 ⟨rfl, hb_⟩; have HB7 := Aside0.mk hb_; clear hb_)
                  | (go_at_call 33; refine (C33.out _ HY5.out.b).mono ?_; rintro e w7 ⟨rfl, hb_⟩; have HB7 := Aside0.mk hb_; clear hb_))
            go_ret
            exact ⟨rfl, HB7.out⟩
        | true =>
          cases m1 with
          | true => exact absurd ⟨rfl, rfl⟩ hboth
          | false =>
            rw [if_pos rfl] at hX0
            rw [if_neg (by decide)] at hX1
            obtain ⟨rfl, rfl⟩ := Prod.mk.inj hX0
            obtain ⟨rfl, rfl⟩ := Prod.mk.inj hX1
            clear hX0 hX1 hboth
            go_enter Try.func4, Try.ntmps4
            go_wp2_with (first
              | (go_at_call_of 29 A0; refine (C29a.out _ HB.out).mono ?_; rintro e w1 ⟨rfl, hb_⟩; have HB1 := Aside0.mk hb_; clear hb_)
                  | (go_at_call_of 29 A1; refine (C29b.out _ HB1.out).mono ?_; rintro e w2 ⟨rfl, hb_⟩; have HB2 := Aside0.mk hb_; clear hb_)
                  | (go_at_call_of 30 A0; refine (key_Append.calls none 0 ([] : List Int) A0 c0 l0 _ _ _ (Kd.C_nil _ _) (Nat.le_refl _) (Kd.C_below HR0.out HB2.out) hc0 HA0.out).mono ?_; rintro e w3 ⟨v_, rfl, hr_, hd_⟩; have HX := Aside0.mk (Own.made HB2.out HB2.out.size hr_ hd_); obtain ⟨Ax, nx, cx, e_, hn_, hcx, hC_⟩ := HX.out.sl'; subst e_; clear hn_ hC_; clear hr_ hd_)
                  | (go_at_call_of 30 A1; refine (key_Append.calls none 0 ([] : List Int) A1 c1 l1 _ _ _ (Kd.C_nil _ _) (Nat.le_refl _) (Kd.C_below HR1.out HX.out.b) hc1 HA1.out).mono ?_; rintro e w4 ⟨v_, rfl, hr_, hd_⟩; have HY := Aside0.mk (Own.made HX.out.b HX.out.s hr_ hd_); obtain ⟨Ay, ny, cy, e_, hn_, hcy, hC_⟩ := HY.out.sl'; subst e_; clear hn_ hC_; have HX2 := Aside0.mk (HX.out.step hd_); clear hr_ hd_)
                  | (go_at_call_of 34 A0; refine ((tidelinelaw03_may.calls (l0.length + 1) _ _ l0 _ _ (Kd.C_below HR0.out HY.out.b) hc0 HL0.out)).mono ?_; rintro e w5 ⟨rfl, hb_⟩; have HX5 := Aside0.mk (HX2.out.step hb_); have HY5 := Aside0.mk (HY.out.step hb_); clear hb_)
                  | (go_at_call_of 34 A1; refine ((tidelinelaw03_may.calls (l1.length + 1) _ _ l1 _ _ (Kd.C_below HR1.out HY5.out.b) hc1 HL1.out)).mono ?_; rintro e w6 ⟨rfl, hb_⟩; have HX6 := Aside0.mk (HX5.out.step hb_); have HY6 := Aside0.mk (HY5.out.step hb_); have HB6 := Aside0.mk HY6.out.b; clear hb_)
                  | (go_at_call 33; refine (C33.out _ HB6.out).mono ?_; rintro e w7 ⟨rfl, hb_⟩; have HB7 := Aside0.mk hb_; clear hb_)
                  | (go_at_call 33; refine (C33.out _ HY5.out.b).mono ?_; rintro e w7 ⟨rfl, hb_⟩; have HB7 := Aside0.mk hb_; clear hb_))
            go_ret
            exact ⟨rfl, HB7.out⟩
end Go.Proofs.Ytlmcefhpnfoahaa.P
