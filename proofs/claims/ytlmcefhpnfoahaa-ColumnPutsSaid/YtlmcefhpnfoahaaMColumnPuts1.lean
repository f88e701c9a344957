/- The row of the law ColumnPuts: at every input it answers true, and each argument reads behind the call as it did. No condition. -/
import Derived.WalkKit
import Derived.ProofKit
import Derived.OpenShut
import Derived.ShutString
import Derived.ChangeOld
import Derived.Below
import Derived.SizedLaws
import Derived.Test.YtlmcefhpnfoahaaRows
import Derived.Test.YtlmcefhpnfoahaaMColumnPuts0
section
namespace Go.Proofs.Ytlmcefhpnfoahaa.P
open Go.RowKit Go.Proofs.YtlmcefhpnfoahaaW.PrintWords Go.Proofs.YtlmcefhpnfoahaaW.PrintLast Go.Proofs.YtlmcefhpnfoahaaW.PrintMore
attribute [local go_sem] max2_int min2_int max_two min_two max_three min_three max_four min_four   -- for this text's walks alone
set_option linter.unusedVariables false
set_option linter.unusedSimpArgs false

mutual
def tidelineref05_Get.j0 : Nat → List Int → Int → Bool → Option (List Int × Int)
  | 0, _, _, _ => none
  | k + 1, x0, x1, x23 => if x23 = true then (some (([] : List Int), 1)) else (tidelineref05_Get.l0 k x0 x1 ([] : List Int) 0)
def tidelineref05_Get.l0 : Nat → List Int → Int → List Int → Int → Option (List Int × Int)
  | 0, _, _, _, _ => none
  | k + 1, x0, x1, x6, x7 => if (x6.length : Int) < x1 then (if x7 = (x0.length : Int) then (some (([] : List Int), 20)) else (if 0 ≤ x7 then (if x7 ≤ (x0.length : Int) then ((tidelineref02_Get.f k (x0.drop (x7 : Int).toNat)).bind fun bt1009 => (if bt1009.2.2 = 0 then (if bt1009.1 = 0 then (tidelineref05_Get.j2 k x0 x1 x6 x7 bt1009.1 bt1009.2.1 true) else (tidelineref05_Get.j2 k x0 x1 x6 x7 bt1009.1 bt1009.2.1 (decide (bt1009.1 > (IntKind.u64.wrap (wrap64 (x1 - (x6.length : Int)))))))) else (some (([] : List Int), bt1009.2.2)))) else (none)) else (none))) else (if x7 = (x0.length : Int) then (tidelineref05_Get.l2 k x6 ([] : List Int) 0 0 0) else (some (([] : List Int), 21)))
def tidelineref05_Get.j2 : Nat → List Int → Int → List Int → Int → Int → Int → Bool → Option (List Int × Int)
  | 0, _, _, _, _, _, _, _ => none
  | k + 1, x0, x1, x6, x7, x8, x9, x53 => if x53 = true then (some (([] : List Int), 21)) else (if 0 ≤ (wrap64 (x7 + x9)) then (if (wrap64 (x7 + x9)) ≤ (x0.length : Int) then ((tidelineref02_Get.f k (x0.drop ((wrap64 (x7 + x9)) : Int).toNat)).bind fun bt1013 => (if bt1013.2.2 = 0 then ((tidelineref02_Zag.f bt1013.1).bind fun t1016 => (if (x6.length : Int) > 0 then (if 0 ≤ (wrap64 ((x6.length : Int) - 1)) then (if (wrap64 ((x6.length : Int) - 1)) < (x6.length : Int) then (tidelineref05_Get.j3 k x0 x1 x6 (wrap64 (x7 + x9)) x8 bt1013.2.1 (IntKind.u64.wrap (t1016)) ((rd x6 (wrap64 ((x6.length : Int) - 1))) == (IntKind.u64.wrap (t1016)))) else (none)) else (none)) else (tidelineref05_Get.j3 k x0 x1 x6 (wrap64 (x7 + x9)) x8 bt1013.2.1 (IntKind.u64.wrap (t1016)) false))) else (some (([] : List Int), bt1013.2.2)))) else (none)) else (none))
def tidelineref05_Get.j3 : Nat → List Int → Int → List Int → Int → Int → Int → Int → Bool → Option (List Int × Int)
  | 0, _, _, _, _, _, _, _, _ => none
  | k + 1, x0, x1, x6, x7, x8, x9, x12, x83 => if x83 = true then (some (([] : List Int), 21)) else (tidelineref05_Get.l1 k x0 x1 x6 (wrap64 (x7 + x9)) x8 x12 0)
def tidelineref05_Get.l1 : Nat → List Int → Int → List Int → Int → Int → Int → Int → Option (List Int × Int)
  | 0, _, _, _, _, _, _, _ => none
  | k + 1, x0, x1, x6, x7, x8, x12, x13 => if x13 < x8 then (if x6.length < 17592186044416 then (tidelineref05_Get.l1 k x0 x1 (x6 ++ [x12]) x7 x8 x12 (IntKind.u64.wrap (x13 + 1))) else (none)) else (tidelineref05_Get.l0 k x0 x1 x6 x7)
def tidelineref05_Get.l2 : Nat → List Int → List Int → Int → Int → Int → Option (List Int × Int)
  | 0, _, _, _, _, _ => none
  | k + 1, x6, x14, x15, x16, x17 => if x17 < (x6.length : Int) then (if 0 ≤ x17 then (if x14.length < 17592186044416 then (tidelineref05_Get.l2 k x6 (x14 ++ [wrap64 (IntKind.u64.wrap (x16 + (IntKind.u64.wrap (x15 + (rd x6 x17)))))]) (IntKind.u64.wrap (x15 + (rd x6 x17))) (IntKind.u64.wrap (x16 + (IntKind.u64.wrap (x15 + (rd x6 x17))))) (wrap64 (x17 + 1))) else (none)) else (none)) else (some (x14, 0))
end
def tidelineref05_Get.f (k : Nat) (l0 : List Int) (a1 : Int) : Option (List Int × Int) := if a1 < 0 then (tidelineref05_Get.j0 k l0 a1 true) else (tidelineref05_Get.j0 k l0 a1 (decide (a1 > 65536)))
set_option maxHeartbeats 8000000 in
set_option maxRecDepth 100000 in
theorem tidelineref05_Get.calls (k : Nat) (A0 : Option Addr) (c0 : Nat) (l0 : List Int) (a1 : Int) (r1 : List Int) (r2 : Int) (w : World) (hr0 : Kd.C (Kd.int .u8) w A0 l0.length l0) (hc0 : l0.length ≤ c0) (h : tidelineref05_Get.f k l0 a1 = some (r1, r2)) :
    Calls Try.prog 145 #[.slice A0 l0.length c0, .int .i64 a1] w fun e w' => ∃ v0_ : Value, e = .returned (.tuple #[v0_, .int .i64 r2]) ∧ Kd.R (Kd.int .i64) 2 w' w.heap.size (fun _ => True) v0_ r1 ∧ Below w.heap.size w w' := by
  have HR0 := Aside0.mk hr0
  have HC0 := Aside0.mk hc0
  clear hr0 hc0
  have HB := Aside0.mk (Below.refl w.heap.size w)
  have H : (if a1 < 0 then (tidelineref05_Get.j0 k l0 a1 true) else (tidelineref05_Get.j0 k l0 a1 (decide (a1 > 65536)))) = some (r1, r2) := h
  clear h
  have HC3 := Aside0.mk H
  clear H
  go_enter Try.func145, Try.ntmps145
  go_upto_region 1 with (fail)
  go_cut [23] (fun v23 wc => ∃ (kq : Nat) (x23_2 : Bool), v23 = .bool x23_2 ∧ Aside0 (tidelineref05_Get.j0 kq l0 a1 x23_2 = some (r1, r2)) ∧ Aside0 (kq ≤ k) ∧ Aside0 (Below w.heap.size w wc))
  case first =>
    have H := HC3.out
    clear HC3
    by_cases c4 : a1 < 0
    · rw [if_pos c4] at H
      have c4b0 : decide (a1 < 0) = true := decide_eq_true c4
      clear c4
      (first | rw [c4b0] | (simp only [i64_w, i32_w]; rw [c4b0]) | skip)
      have H' := Aside0.mk H
      clear H
      go_wp2
      go_meet
      case rel => exact ⟨_, (true), (by first | rfl | (simp; done) | (simp [*]; done)), H', ⟨by first | omega | exact Nat.le_refl _⟩, ⟨by repeat (first | (with_reducible first | exact HB.out | apply below_alloc | apply pw_below_drewN | apply below_drew1) | exact HB.out)⟩⟩
    · rw [if_neg c4] at H
      have c4b0 : decide (a1 < 0) = false := decide_eq_false c4
      clear c4
      (first | rw [c4b0] | (simp only [i64_w, i32_w]; rw [c4b0]) | skip)
      have H' := Aside0.mk H
      clear H
      go_wp2
      go_meet
      case rel => exact ⟨_, (decide (a1 > 65536)), (by first | rfl | (simp; done) | (simp [*]; done)), H', ⟨by first | omega | exact Nat.le_refl _⟩, ⟨by repeat (first | (with_reducible first | exact HB.out | apply below_alloc | apply pw_below_drewN | apply below_drew1) | exact HB.out)⟩⟩
  case rest =>
    clear HC3
    try clear c1
    try clear p2
    try clear c4
    try clear c4b0
    obtain ⟨kq, x23_2, rfl, HA, HJ2, HB⟩ := hcut
    cases kq with
    | zero => exact absurd HA.out (by simp [tidelineref05_Get.j0])
    | succ kj2 =>
      have H := HA.out
      clear HA
      simp only [tidelineref05_Get.j0] at H
      by_cases c5 : x23_2 = true
      · subst c5
        have H1 : (some (([] : List Int), 1)) = some (r1, r2) := by rw [if_pos rfl] at H; exact H
        clear H
        have H := H1
        clear H1
        simp only [Option.some.injEq, Prod.mk.injEq] at H
        obtain ⟨rfl, rfl⟩ := H
        go_wp2
        go_ret2
        exact ⟨_, by first | rfl | (simp [errW_none, errW_some] <;> rfl) | (simp [*, errW_none, errW_some] <;> rfl), by first | exact Kd.R_nil _ _ _ _ _ | exact Kd.N_nil _ _ _ _ _ | exact Kd.V_nil _ _ _ _ _ | exact Kd.Q_nil _ _ _ _ _ | exact Kd.S_nil _ _ _ _ _, by repeat (first | (with_reducible first | exact HB.out | apply below_alloc | apply pw_below_drewN | apply below_drew1) | exact HB.out)⟩
      · replace c5 := Bool.eq_false_iff.mpr c5
        subst c5
        have H1 : (tidelineref05_Get.l0 kj2 l0 a1 ([] : List Int) 0) = some (r1, r2) := by rw [if_neg (show ¬ (false = true) by decide)] at H; exact H
        clear H
        have H := H1
        clear H1
        have H' := Aside0.mk H
        clear H
        go_wp2
        go_loopg [6, 7] kj2 (fun kq v6 v7 w' => ∃ (x6_2 : List Int) (x7_2 : Int), v7 = .int .i64 x7_2 ∧ Aside0 (tidelineref05_Get.l0 kq l0 a1 x6_2 x7_2 = some (r1, r2)) ∧ Aside0 (kq ≤ kj2) ∧ Aside0 (Kd.R (Kd.int .u64) 84 w' w.heap.size (fun _ => True) v6 x6_2) ∧ Aside0 (Below w.heap.size w w'))
        case atStart => exact ⟨(([] : List Int)), (0), (by first | rfl | (simp; done) | (simp [*]; done)), H', ⟨Nat.le_refl _⟩, ⟨by first | exact Kd.R_nil _ _ _ _ _ | exact Kd.N_nil _ _ _ _ _ | exact Kd.V_nil _ _ _ _ _ | exact Kd.Q_nil _ _ _ _ _ | exact Kd.S_nil _ _ _ _ _⟩, ⟨by repeat (first | (with_reducible first | exact HB.out | apply below_alloc | apply pw_below_drewN | apply below_drew1) | exact HB.out)⟩⟩
        case round =>
          clear H'
          try clear c1
          try clear p2
          try clear c4
          try clear c4b0
          try clear c5
          try clear p2
          obtain ⟨x6_2, x7_2, rfl, HA, HK2, HO_6, HB⟩ := hrel
          cases gk with
          | zero => exact absurd HA.out (by simp [tidelineref05_Get.l0])
          | succ k2 =>
            have H := HA.out
            clear HA
            simp only [tidelineref05_Get.l0] at H
            by_cases c6 : (x6_2.length : Int) < a1
            · rw [if_pos c6] at H
              have c6b0 : decide ((x6_2.length : Int) < a1) = true := decide_eq_true c6
              clear c6
              by_cases c7 : x7_2 = (l0.length : Int)
              · rw [if_pos c7] at H
                have c7b0 : (x7_2 == (l0.length : Int)) = true := beq_iff_eq.mpr c7
                have c7b1 : (x7_2 != (l0.length : Int)) = false := bne_eq_false_iff_eq.mpr c7
                clear c7
                simp only [Option.some.injEq, Prod.mk.injEq] at H
                obtain ⟨rfl, rfl⟩ := H
                obtain ⟨Ao8, co8, eo8⟩ := Kd.R_slice HO_6.out
                subst eo8
                go_wp2
                go_ret2
                exact ⟨_, by first | rfl | (simp [errW_none, errW_some] <;> rfl) | (simp [*, errW_none, errW_some] <;> rfl), by first | exact Kd.R_nil _ _ _ _ _ | exact Kd.N_nil _ _ _ _ _ | exact Kd.V_nil _ _ _ _ _ | exact Kd.Q_nil _ _ _ _ _ | exact Kd.S_nil _ _ _ _ _, by repeat (first | (with_reducible first | exact HB.out | apply below_alloc | apply pw_below_drewN | apply below_drew1) | exact HB.out)⟩
              · rw [if_neg c7] at H
                have c7b0 : (x7_2 == (l0.length : Int)) = false := beq_eq_false_iff_ne.mpr c7
                have c7b1 : (x7_2 != (l0.length : Int)) = true := bne_iff_ne.mpr c7
                by_cases c9 : 0 ≤ x7_2
                · rw [if_pos c9] at H
                  have c9b0 := eq_true c9
                  have c9b1 : decide (0 ≤ x7_2) = true := decide_eq_true c9
                  clear c9
                  by_cases c10 : x7_2 ≤ (l0.length : Int)
                  · rw [if_pos c10] at H
                    have c10b0 := eq_true c10
                    have c10b1 : decide (x7_2 ≤ (l0.length : Int)) = true := decide_eq_true c10
                    clear c10
                    replace H := Option.bind_eq_some_iff.mp H
                    obtain ⟨⟨t1009, t1010, t1011⟩, A110, H⟩ := H
                    replace H : (if t1011 = 0 then (if t1009 = 0 then (tidelineref05_Get.j2 k2 l0 a1 x6_2 x7_2 t1009 t1010 true) else (tidelineref05_Get.j2 k2 l0 a1 x6_2 x7_2 t1009 t1010 (decide (t1009 > (IntKind.u64.wrap (wrap64 (a1 - (x6_2.length : Int)))))))) else (some (([] : List Int), t1011))) = some (r1, r2) := H
                    have A11 := Aside0.mk A110
                    clear A110
                    by_cases c12 : t1011 = 0
                    · rw [if_pos c12] at H
                      have c12b0 : (t1011 == 0) = true := beq_iff_eq.mpr c12
                      have c12b1 : (t1011 != 0) = false := bne_eq_false_iff_eq.mpr c12
                      clear c12
                      have HC13 := Aside0.mk H
                      clear H
                      obtain ⟨Ao14, co14, eo14⟩ := Kd.R_slice HO_6.out
                      subst eo14
                      obtain ⟨i015, hi015, _, hsz15, _⟩ := info_parts info5
                      obtain ⟨A15, hcut15, hA15, hC15⟩ := print_drop_of (P := Try.prog) (Value.int .u8) 0 22 5 .i64 Try.underlying22 hi015 hsz15 A0 c0 l0 x7_2 (of_decide_eq_true (by first | (with_reducible assumption) | assumption)) (of_decide_eq_true (by first | (with_reducible assumption) | assumption)) HC0.out
                      have HR1008 := Aside0.mk (Kd.C_of_reads (h1 := fun _ => rfl) (hA15 _ (Kd.reads_of_C HR0.out)))
                      have HC1008 := Aside0.mk hC15
                      clear hA15 hC15 hi015 hsz15
                      go_upto_region 11 with (first | ((with_reducible refine gate_callee (f := 108) rfl ?_); refine goesL_ (some 36) rfl rfl Try.func108 (by kernel_rfl) rfl #[.slice A15 (l0.drop (x7_2 : Int).toNat).length (c0 - x7_2.toNat)] rfl (by (try simp only [List.map_toArray, List.map_cons, List.map_nil]); first | done | (rw [show (l0.drop (x7_2 : Int).toNat).length = (l0.length - x7_2.toNat) from List.length_drop] <;> rfl) | rfl | (simp only [List.length_drop, List.length_take]; rfl)) ?_; (with_reducible refine (tidelineref02_Get.calls k2 _ _ (l0.drop (x7_2 : Int).toNat) t1009 t1010 t1011 _ ?side1 ?side2 A11.out).mono ?_); (case side1 => repeat (first | exact (Kd.C_below HR1008.out HB.out) | (with_reducible refine Kd.C_alloc ?_ _) | (with_reducible refine Kd.C_drewN ?_ _) | (with_reducible refine Kd.C_drew ?_))); (case side2 => exact HC1008.out); rintro e w' ⟨rfl, ⟨nd, rfl⟩⟩; refine ⟨_, rfl, ?_⟩))
                      (try simp only [Act.put, List.setIfInBounds_toArray, List.set_cons_zero, List.set_cons_succ])
                      go_cut [53] (fun v53 wc => ∃ (kq : Nat) (x53_12 : Bool), v53 = .bool x53_12 ∧ Aside0 (tidelineref05_Get.j2 kq l0 a1 x6_2 x7_2 t1009 t1010 x53_12 = some (r1, r2)) ∧ Aside0 (kq ≤ k2) ∧ Aside0 (Kd.R (Kd.int .u64) 84 wc w.heap.size (fun _ => True) (.slice Ao14 x6_2.length co14) x6_2) ∧ Aside0 (Below w.heap.size w wc))
                      case first =>
                        have H := HC13.out
                        clear HC13
                        by_cases c16 : t1009 = 0
                        · rw [if_pos c16] at H
                          have c16b0 : (t1009 == 0) = true := beq_iff_eq.mpr c16
                          have c16b1 : (t1009 != 0) = false := bne_eq_false_iff_eq.mpr c16
                          clear c16
                          (first | rw [c16b0] | (simp only [i64_w, i32_w]; rw [c16b0]) | skip)
                          have H' := Aside0.mk H
                          clear H
                          go_wp2
                          go_meet
                          case rel => exact ⟨_, (true), (by first | rfl | (simp; done) | (simp [*]; done)), H', ⟨by have := HJ2.out; have := HK2.out; first | omega | exact Nat.le_refl _⟩, ⟨by (with_reducible repeat (first | apply Kd.R_alloc | apply Kd.R_drewN | apply Kd.R_drew)); exact HO_6.out⟩, ⟨by repeat (first | (with_reducible first | exact HB.out | apply below_alloc | apply pw_below_drewN | apply below_drew1) | exact HB.out)⟩⟩
                        · rw [if_neg c16] at H
                          have c16b0 : (t1009 == 0) = false := beq_eq_false_iff_ne.mpr c16
                          have c16b1 : (t1009 != 0) = true := bne_iff_ne.mpr c16
                          (first | rw [c16b0] | (simp only [i64_w, i32_w]; rw [c16b0]) | skip)
                          have H' := Aside0.mk H
                          clear H
                          go_wp2
                          go_meet
                          case rel => exact ⟨_, (decide (t1009 > (IntKind.u64.wrap (wrap64 (a1 - (x6_2.length : Int)))))), (by first | rfl | (simp; done) | (simp [*]; done)), H', ⟨by have := HJ2.out; have := HK2.out; first | omega | exact Nat.le_refl _⟩, ⟨by (with_reducible repeat (first | apply Kd.R_alloc | apply Kd.R_drewN | apply Kd.R_drew)); exact HO_6.out⟩, ⟨by repeat (first | (with_reducible first | exact HB.out | apply below_alloc | apply pw_below_drewN | apply below_drew1) | exact HB.out)⟩⟩
                      case rest =>
                        clear HC13
                        try clear c1
                        try clear p2
                        try clear c4
                        try clear c4b0
                        try clear c5
                        try clear c6
                        try clear c6b0
                        try clear p6
                        try clear c7
                        try clear c7b0
                        try clear c7b1
                        try clear c9
                        try clear c9b0
                        try clear c9b1
                        try clear c10
                        try clear c10b0
                        try clear c10b1
                        try clear c12
                        try clear c12b0
                        try clear c12b1
                        try clear c14
                        try clear c16
                        try clear c16b0
                        try clear c16b1
                        try clear p2
                        obtain ⟨kq, x53_12, rfl, HA, HJ12, HO_6, HB⟩ := hcut
                        cases kq with
                        | zero => exact absurd HA.out (by simp [tidelineref05_Get.j2])
                        | succ kj12 =>
                          have H := HA.out
                          clear HA
                          simp only [tidelineref05_Get.j2] at H
                          by_cases c17 : x53_12 = true
                          · subst c17
                            have H1 : (some (([] : List Int), 21)) = some (r1, r2) := by rw [if_pos rfl] at H; exact H
                            clear H
                            have H := H1
                            clear H1
                            simp only [Option.some.injEq, Prod.mk.injEq] at H
                            obtain ⟨rfl, rfl⟩ := H
                            go_wp2
                            go_ret2
                            exact ⟨_, by first | rfl | (simp [errW_none, errW_some] <;> rfl) | (simp [*, errW_none, errW_some] <;> rfl), by first | exact Kd.R_nil _ _ _ _ _ | exact Kd.N_nil _ _ _ _ _ | exact Kd.V_nil _ _ _ _ _ | exact Kd.Q_nil _ _ _ _ _ | exact Kd.S_nil _ _ _ _ _, by repeat (first | (with_reducible first | exact HB.out | apply below_alloc | apply pw_below_drewN | apply below_drew1) | exact HB.out)⟩
                          · replace c17 := Bool.eq_false_iff.mpr c17
                            subst c17
                            have H1 : (if 0 ≤ (wrap64 (x7_2 + t1010)) then (if (wrap64 (x7_2 + t1010)) ≤ (l0.length : Int) then ((tidelineref02_Get.f kj12 (l0.drop ((wrap64 (x7_2 + t1010)) : Int).toNat)).bind fun bt1013 => (if bt1013.2.2 = 0 then ((tidelineref02_Zag.f bt1013.1).bind fun t1016 => (if (x6_2.length : Int) > 0 then (if 0 ≤ (wrap64 ((x6_2.length : Int) - 1)) then (if (wrap64 ((x6_2.length : Int) - 1)) < (x6_2.length : Int) then (tidelineref05_Get.j3 kj12 l0 a1 x6_2 (wrap64 (x7_2 + t1010)) t1009 bt1013.2.1 (IntKind.u64.wrap (t1016)) ((rd x6_2 (wrap64 ((x6_2.length : Int) - 1))) == (IntKind.u64.wrap (t1016)))) else (none)) else (none)) else (tidelineref05_Get.j3 kj12 l0 a1 x6_2 (wrap64 (x7_2 + t1010)) t1009 bt1013.2.1 (IntKind.u64.wrap (t1016)) false))) else (some (([] : List Int), bt1013.2.2)))) else (none)) else (none)) = some (r1, r2) := by rw [if_neg (show ¬ (false = true) by decide)] at H; exact H
                            clear H
                            have H := H1
                            clear H1
                            obtain ⟨ji18, hji18⟩ : ∃ j_ : Int, (wrap64 (x7_2 + t1010)) = j_ := ⟨_, rfl⟩
                            replace H : (if 0 ≤ (ji18) then (if (ji18) ≤ (l0.length : Int) then ((tidelineref02_Get.f kj12 (l0.drop ((ji18) : Int).toNat)).bind fun bt1013 => (if bt1013.2.2 = 0 then ((tidelineref02_Zag.f bt1013.1).bind fun t1016 => (if (x6_2.length : Int) > 0 then (if 0 ≤ (wrap64 ((x6_2.length : Int) - 1)) then (if (wrap64 ((x6_2.length : Int) - 1)) < (x6_2.length : Int) then (tidelineref05_Get.j3 kj12 l0 a1 x6_2 ji18 t1009 bt1013.2.1 (IntKind.u64.wrap (t1016)) ((rd x6_2 (wrap64 ((x6_2.length : Int) - 1))) == (IntKind.u64.wrap (t1016)))) else (none)) else (none)) else (tidelineref05_Get.j3 kj12 l0 a1 x6_2 ji18 t1009 bt1013.2.1 (IntKind.u64.wrap (t1016)) false))) else (some (([] : List Int), bt1013.2.2)))) else (none)) else (none)) = some (r1, r2) := by first | (rw [hji18] at H; exact H) | (simp only [hji18] at H ⊢; exact H)
                            have hji18w : (IntKind.i64.wrap (x7_2 + t1010)) = ji18 := (i64_w _).trans hji18
                            by_cases c19 : 0 ≤ (ji18)
                            · rw [if_pos c19] at H
                              have c19b0 := eq_true c19
                              have c19b1 : decide (0 ≤ (ji18)) = true := decide_eq_true c19
                              clear c19
                              by_cases c20 : (ji18) ≤ (l0.length : Int)
                              · rw [if_pos c20] at H
                                have c20b0 := eq_true c20
                                have c20b1 : decide ((ji18) ≤ (l0.length : Int)) = true := decide_eq_true c20
                                clear c20
                                replace H := Option.bind_eq_some_iff.mp H
                                obtain ⟨⟨t1013, t1014, t1015⟩, A210, H⟩ := H
                                replace H : (if t1015 = 0 then ((tidelineref02_Zag.f t1013).bind fun t1016 => (if (x6_2.length : Int) > 0 then (if 0 ≤ (wrap64 ((x6_2.length : Int) - 1)) then (if (wrap64 ((x6_2.length : Int) - 1)) < (x6_2.length : Int) then (tidelineref05_Get.j3 kj12 l0 a1 x6_2 ji18 t1009 t1014 (IntKind.u64.wrap (t1016)) ((rd x6_2 (wrap64 ((x6_2.length : Int) - 1))) == (IntKind.u64.wrap (t1016)))) else (none)) else (none)) else (tidelineref05_Get.j3 kj12 l0 a1 x6_2 ji18 t1009 t1014 (IntKind.u64.wrap (t1016)) false))) else (some (([] : List Int), t1015))) = some (r1, r2) := H
                                have A21 := Aside0.mk A210
                                clear A210
                                by_cases c22 : t1015 = 0
                                · rw [if_pos c22] at H
                                  have c22b0 : (t1015 == 0) = true := beq_iff_eq.mpr c22
                                  have c22b1 : (t1015 != 0) = false := bne_eq_false_iff_eq.mpr c22
                                  clear c22
                                  replace H := Option.bind_eq_some_iff.mp H
                                  obtain ⟨t1016, A230, H⟩ := H
                                  replace H : (if (x6_2.length : Int) > 0 then (if 0 ≤ (wrap64 ((x6_2.length : Int) - 1)) then (if (wrap64 ((x6_2.length : Int) - 1)) < (x6_2.length : Int) then (tidelineref05_Get.j3 kj12 l0 a1 x6_2 ji18 t1009 t1014 (IntKind.u64.wrap (t1016)) ((rd x6_2 (wrap64 ((x6_2.length : Int) - 1))) == (IntKind.u64.wrap (t1016)))) else (none)) else (none)) else (tidelineref05_Get.j3 kj12 l0 a1 x6_2 ji18 t1009 t1014 (IntKind.u64.wrap (t1016)) false)) = some (r1, r2) := H
                                  have A23 := Aside0.mk A230
                                  clear A230
                                  have HC24 := Aside0.mk H
                                  clear H
                                  obtain ⟨i025, hi025, _, hsz25, _⟩ := info_parts info5
                                  obtain ⟨A25, hcut25, hA25, hC25⟩ := print_drop_of (P := Try.prog) (Value.int .u8) 0 22 5 .i64 Try.underlying22 hi025 hsz25 A0 c0 l0 (ji18) (of_decide_eq_true (by first | (with_reducible assumption) | assumption)) (of_decide_eq_true (by first | (with_reducible assumption) | assumption)) HC0.out
                                  have HR1012 := Aside0.mk (Kd.C_of_reads (h1 := fun _ => rfl) (hA25 _ (Kd.reads_of_C HR0.out)))
                                  have HC1012 := Aside0.mk hC25
                                  clear hA25 hC25 hi025 hsz25
                                  go_upto_region 18 with (first | ((with_reducible refine gate_callee (f := 108) rfl ?_); refine goesL_ (some 61) rfl rfl Try.func108 (by kernel_rfl) rfl #[.slice A25 (l0.drop ((ji18) : Int).toNat).length (c0 - (ji18).toNat)] rfl (by (try simp only [List.map_toArray, List.map_cons, List.map_nil]); first | done | (rw [show (l0.drop ((ji18) : Int).toNat).length = (l0.length - (ji18).toNat) from List.length_drop] <;> rfl) | (simp only [hji18]; rfl) | rfl | (simp only [List.length_drop, List.length_take]; rfl)) ?_; (with_reducible refine (tidelineref02_Get.calls kj12 _ _ (l0.drop ((ji18) : Int).toNat) t1013 t1014 t1015 _ ?side1 ?side2 A21.out).mono ?_); (case side1 => repeat (first | exact (Kd.C_below HR1012.out HB.out) | (with_reducible refine Kd.C_alloc ?_ _) | (with_reducible refine Kd.C_drewN ?_ _) | (with_reducible refine Kd.C_drew ?_))); (case side2 => exact HC1012.out); rintro e w' ⟨rfl, ⟨nd, rfl⟩⟩; refine ⟨_, rfl, ?_⟩) | ((with_reducible refine gate_callee (f := 132) rfl ?_); refine goesL_ (some 69) rfl rfl Try.func132 (by kernel_rfl) rfl #[.int .u64 t1013] rfl (by (try simp only [List.map_toArray, List.map_cons, List.map_nil]); first | done | rfl | (simp only [List.length_drop, List.length_take]; rfl)) ?_; (with_reducible refine (tidelineref02_Zag.calls t1013 t1016 _ A23.out).mono ?_); rintro e w' ⟨rfl, ⟨nd, rfl⟩⟩; refine ⟨_, rfl, ?_⟩))
                                  (try simp only [Act.put, List.setIfInBounds_toArray, List.set_cons_zero, List.set_cons_succ])
                                  go_cut [83] (fun v83 wc => ∃ (kq : Nat) (x83_23 : Bool), v83 = .bool x83_23 ∧ Aside0 (tidelineref05_Get.j3 kq l0 a1 x6_2 ji18 t1009 t1014 (IntKind.u64.wrap (t1016)) x83_23 = some (r1, r2)) ∧ Aside0 (kq ≤ kj12) ∧ Aside0 (Kd.R (Kd.int .u64) 84 wc w.heap.size (fun _ => True) (.slice Ao14 x6_2.length co14) x6_2) ∧ Aside0 (Below w.heap.size w wc))
                                  case first =>
                                    have H := HC24.out
                                    clear HC24
                                    by_cases c26 : (x6_2.length : Int) > 0
                                    · rw [if_pos c26] at H
                                      have c26b0 : decide (0 < (x6_2.length : Int)) = true := decide_eq_true c26
                                      have c26b1 : decide (0 < x6_2.length) = true := decide_eq_true (by omega)
                                      clear c26
                                      (first | rw [c26b0] | (simp only [i64_w, i32_w]; rw [c26b0]) | skip)
                                      obtain ⟨ji27, hji27⟩ : ∃ j_ : Int, (wrap64 ((x6_2.length : Int) - 1)) = j_ := ⟨_, rfl⟩
                                      replace H : (if 0 ≤ (ji27) then (if (ji27) < (x6_2.length : Int) then (tidelineref05_Get.j3 kj12 l0 a1 x6_2 ji18 t1009 t1014 (IntKind.u64.wrap (t1016)) ((rd x6_2 (ji27)) == (IntKind.u64.wrap (t1016)))) else (none)) else (none)) = some (r1, r2) := by first | (rw [hji27] at H; exact H) | (simp only [hji27] at H ⊢; exact H)
                                      have hji27w : (IntKind.i64.wrap ((x6_2.length : Int) - 1)) = ji27 := (i64_w _).trans hji27
                                      by_cases c28 : 0 ≤ (ji27)
                                      · rw [if_pos c28] at H
                                        have c28b0 : decide (0 ≤ (ji27)) = true := decide_eq_true c28
                                        clear c28
                                        by_cases c29 : (ji27) < (x6_2.length : Int)
                                        · rw [if_pos c29] at H
                                          have c29b0 : decide ((ji27) < (x6_2.length : Int)) = true := decide_eq_true c29
                                          clear c29
                                          have H' := Aside0.mk H
                                          clear H
                                          have p1017 : 0 ≤ ((ji27) : Int) := of_decide_eq_true (by first | (with_reducible assumption) | assumption)
                                          have q1017 : (ji27) < (x6_2.length : Int) := of_decide_eq_true (by first | (with_reducible assumption) | assumption)
                                          obtain ⟨ad1017, e1017, hx1017_0⟩ := Kd.at_int (Kd.R_reads' HO_6.out).2.2 (ji27) p1017 q1017
                                          cases e1017
                                          replace p1017 := eq_true p1017
                                          replace q1017 := eq_true q1017
                                          go_wp2
                                          go_meet
                                          case rel => exact ⟨_, (((rd x6_2 (ji27)) == (IntKind.u64.wrap (t1016)))), (by first | rfl | (simp; done) | (simp only [← hji27] <;> (first | rfl | simp)) | (simp [*]; done)), H', ⟨by have := HJ2.out; have := HK2.out; have := HJ12.out; first | omega | exact Nat.le_refl _⟩, ⟨by (with_reducible repeat (first | apply Kd.R_alloc | apply Kd.R_drewN | apply Kd.R_drew)); exact HO_6.out⟩, ⟨by repeat (first | (with_reducible first | exact HB.out | apply below_alloc | apply pw_below_drewN | apply below_drew1) | exact HB.out)⟩⟩
                                        · rw [if_neg c29] at H
                                          exact absurd H (by simp)
                                      · rw [if_neg c28] at H
                                        exact absurd H (by simp)
                                    · rw [if_neg c26] at H
                                      have c26b0 : decide (0 < (x6_2.length : Int)) = false := decide_eq_false c26
                                      have c26b1 : decide (0 < x6_2.length) = false := decide_eq_false (by omega)
                                      clear c26
                                      (first | rw [c26b0] | (simp only [i64_w, i32_w]; rw [c26b0]) | skip)
                                      have H' := Aside0.mk H
                                      clear H
                                      go_wp2
                                      go_meet
                                      case rel => exact ⟨_, (false), (by first | rfl | (simp; done) | (simp [*]; done)), H', ⟨by have := HJ2.out; have := HK2.out; have := HJ12.out; first | omega | exact Nat.le_refl _⟩, ⟨by (with_reducible repeat (first | apply Kd.R_alloc | apply Kd.R_drewN | apply Kd.R_drew)); exact HO_6.out⟩, ⟨by repeat (first | (with_reducible first | exact HB.out | apply below_alloc | apply pw_below_drewN | apply below_drew1) | exact HB.out)⟩⟩
                                  case rest =>
                                    clear HC24
                                    try clear c1
                                    try clear p1
                                    try clear q1
                                    try clear hx1
                                    try clear c2
                                    try clear p2
                                    try clear c4
                                    try clear c4b0
                                    try clear c5
                                    try clear c6
                                    try clear c6b0
                                    try clear p6
                                    try clear c7
                                    try clear c7b0
                                    try clear c7b1
                                    try clear c9
                                    try clear c9b0
                                    try clear c9b1
                                    try clear c10
                                    try clear c10b0
                                    try clear c10b1
                                    try clear p10
                                    try clear q10
                                    try clear hx10
                                    try clear c12
                                    try clear c12b0
                                    try clear c12b1
                                    try clear c13
                                    try clear c14
                                    try clear c16
                                    try clear c16b0
                                    try clear c16b1
                                    try clear c17
                                    try clear c19
                                    try clear c19b0
                                    try clear c19b1
                                    try clear c20
                                    try clear c20b0
                                    try clear c20b1
                                    try clear c22
                                    try clear c22b0
                                    try clear c22b1
                                    try clear c26
                                    try clear c26b0
                                    try clear c26b1
                                    try clear c28
                                    try clear c28b0
                                    try clear c29
                                    try clear c29b0
                                    try clear hx1017_0
                                    try clear p1017
                                    try clear p2
                                    try clear p6
                                    try clear q1017
                                    obtain ⟨kq, x83_23, rfl, HA, HJ23, HO_6, HB⟩ := hcut
                                    cases kq with
                                    | zero => exact absurd HA.out (by simp [tidelineref05_Get.j3])
                                    | succ kj23 =>
                                      have H := HA.out
                                      clear HA
                                      simp only [tidelineref05_Get.j3] at H
                                      by_cases c30 : x83_23 = true
                                      · subst c30
                                        have H1 : (some (([] : List Int), 21)) = some (r1, r2) := by rw [if_pos rfl] at H; exact H
                                        clear H
                                        have H := H1
                                        clear H1
                                        simp only [Option.some.injEq, Prod.mk.injEq] at H
                                        obtain ⟨rfl, rfl⟩ := H
                                        go_wp2
                                        go_ret2
                                        exact ⟨_, by first | rfl | (simp [errW_none, errW_some] <;> rfl) | (simp only [← hji18]; first | rfl | (simp [errW_none, errW_some] <;> rfl)) | (simp [*, errW_none, errW_some] <;> rfl), by first | exact Kd.R_nil _ _ _ _ _ | exact Kd.N_nil _ _ _ _ _ | exact Kd.V_nil _ _ _ _ _ | exact Kd.Q_nil _ _ _ _ _ | exact Kd.S_nil _ _ _ _ _, by repeat (first | (with_reducible first | exact HB.out | apply below_alloc | apply pw_below_drewN | apply below_drew1) | exact HB.out)⟩
                                      · replace c30 := Bool.eq_false_iff.mpr c30
                                        subst c30
                                        have H1 : (tidelineref05_Get.l1 kj23 l0 a1 x6_2 (wrap64 (ji18 + t1014)) t1009 (IntKind.u64.wrap (t1016)) 0) = some (r1, r2) := by rw [if_neg (show ¬ (false = true) by decide)] at H; exact H
                                        clear H
                                        have H := H1
                                        clear H1
                                        have H' := Aside0.mk H
                                        clear H
                                        go_wp2
                                        go_loopg [6, 13] kj23 (fun kq v6 v13 w' => ∃ (x6_5 : List Int) (x13_5 : Int), v13 = .int .u64 x13_5 ∧ Aside0 (tidelineref05_Get.l1 kq l0 a1 x6_5 (wrap64 (ji18 + t1014)) t1009 (IntKind.u64.wrap (t1016)) x13_5 = some (r1, r2)) ∧ Aside0 (kq ≤ kj23) ∧ Aside0 (Kd.R (Kd.int .u64) 84 w' w.heap.size (fun _ => True) v6 x6_5) ∧ Aside0 (Below w.heap.size w w'))
                                        case atStart => exact ⟨(x6_2), (0), (by first | rfl | (simp; done) | (simp [*]; done)), H', ⟨Nat.le_refl _⟩, ⟨by (with_reducible repeat (first | apply Kd.R_alloc | apply Kd.R_drewN | apply Kd.R_drew)); exact HO_6.out⟩, ⟨by repeat (first | (with_reducible first | exact HB.out | apply below_alloc | apply pw_below_drewN | apply below_drew1) | exact HB.out)⟩⟩
                                        case round =>
                                          clear H'
                                          try clear c1
                                          try clear p1
                                          try clear q1
                                          try clear hx1
                                          try clear c2
                                          try clear p2
                                          try clear c3
                                          try clear c4
                                          try clear c4b0
                                          try clear c5
                                          try clear c6
                                          try clear c6b0
                                          try clear p6
                                          try clear c7
                                          try clear c7b0
                                          try clear c7b1
                                          try clear c9
                                          try clear c9b0
                                          try clear c9b1
                                          try clear c10
                                          try clear c10b0
                                          try clear c10b1
                                          try clear p10
                                          try clear q10
                                          try clear hx10
                                          try clear c12
                                          try clear c12b0
                                          try clear c12b1
                                          try clear c13
                                          try clear c14
                                          try clear c16
                                          try clear c16b0
                                          try clear c16b1
                                          try clear c17
                                          try clear c19
                                          try clear c19b0
                                          try clear c19b1
                                          try clear c20
                                          try clear c20b0
                                          try clear c20b1
                                          try clear c22
                                          try clear c22b0
                                          try clear c22b1
                                          try clear c26
                                          try clear c26b0
                                          try clear c26b1
                                          try clear c28
                                          try clear c28b0
                                          try clear c29
                                          try clear c29b0
                                          try clear c30
                                          try clear hx1017_0
                                          try clear p1
                                          try clear p10
                                          try clear p1017
                                          try clear p2
                                          try clear p6
                                          try clear q1
                                          try clear q10
                                          try clear q1017
                                          obtain ⟨x6_5, x13_5, rfl, HA, HK5, HO_6, HB⟩ := hrel
                                          cases gk with
                                          | zero => exact absurd HA.out (by simp [tidelineref05_Get.l1])
                                          | succ k5 =>
                                            have H := HA.out
                                            clear HA
                                            simp only [tidelineref05_Get.l1] at H
                                            by_cases c31 : x13_5 < t1009
                                            · rw [if_pos c31] at H
                                              have c31b0 : decide (x13_5 < t1009) = true := decide_eq_true c31
                                              clear c31
                                              by_cases c32 : x6_5.length < 17592186044416
                                              · rw [if_pos c32] at H
                                                have LMc32 := Aside0.mk c32
                                                clear c32
                                                obtain ⟨y1018, hy1018⟩ : ∃ y_ : List Int, y_ = (x6_5 ++ [(IntKind.u64.wrap (t1016))]) := ⟨_, rfl⟩
                                                replace H : (tidelineref05_Get.l1 k5 l0 a1 y1018 (wrap64 (ji18 + t1014)) t1009 (IntKind.u64.wrap (t1016)) (IntKind.u64.wrap (x13_5 + 1))) = some (r1, r2) := by first | (rw [hy1018]; with_reducible exact H) | (have H2_ := (Option.bind_some _ _).symm.trans H; rw [hy1018]; with_reducible exact H2_) | (have H2_ := (Option.bind_some _ _).symm.trans H; with_reducible exact H2_) | with_reducible exact H | (rw [hy1018]; exact H) | exact H
                                                have Ny1018 := Aside0.mk hy1018
                                                clear hy1018
                                                have H' := Aside0.mk H
                                                clear H
                                                go_wp2_with (first | ((with_reducible refine gate_builtin (b := .append) (xs := #[.tmp 92, .tmp 94]) rfl ?_); (try (refine gate_guard (by rfl) ?_; dsimp only)); at_builtin; refine Kd.R_append (Kd.int .u64) (w0 := w) w.heap.size rfl (.tmp 92) (.tmp 94) 149 84 (.int .u64 0) 8 rfl Try.underlying149 info84 rfl (by decide) (by omega) u6 x6_5 (IntKind.u64.wrap (t1016)) [.int .u64 (IntKind.u64.wrap (t1016))] (fun _ => True) (fun _ => False) rfl rfl ?aP (fun _ hk => hk.elim) ?aF ?aO ?aB ?aS ?aL ?_; (case aP => exact rfl); (case aB => exact (by repeat (first | (with_reducible first | exact HB.out | apply below_alloc | apply pw_below_drewN | apply below_drew1) | exact HB.out))); (case aF => exact (fun _ _ => trivial)); (case aO => exact (by (with_reducible repeat (first | apply Kd.R_alloc | apply Kd.R_drewN | apply Kd.R_drew)); exact HO_6.out)); (case aS => exact (below_size (by repeat (first | (with_reducible first | exact HB.out | apply below_alloc | apply pw_below_drewN | apply below_drew1) | exact HB.out)))); (case aL => have := LMc32.out; omega); intro v1019 w33 ho hb hg hat; rw [← Ny1018.out] at ho; have n0_ := Aside0.mk (hb); have n1_ := Aside0.mk (ho); clear HB; clear HO_6; have HB := n0_; have HO1020 := n1_; clear n0_ n1_; clear ho hb hg hat))
                                                go_roundg k5
                                                case measure => have := HJ2.out; have := HK2.out; have := HJ12.out; have := HJ23.out; have := HK5.out; omega
                                                case rel => exact ⟨(y1018), (IntKind.u64.wrap (x13_5 + 1)), (by first | rfl | (simp; done) | (simp [*]; done)), H', ⟨by have := HJ2.out; have := HK2.out; have := HJ12.out; have := HJ23.out; have := HK5.out; omega⟩, ⟨by (with_reducible repeat (first | apply Kd.R_alloc | apply Kd.R_drewN | apply Kd.R_drew)); exact HO1020.out⟩, ⟨by repeat (first | (with_reducible first | exact HB.out | apply below_alloc | apply pw_below_drewN | apply below_drew1) | exact HB.out)⟩⟩
                                              · rw [if_neg c32] at H
                                                exact absurd H (by simp)
                                            · rw [if_neg c31] at H
                                              have c31b0 : decide (x13_5 < t1009) = false := decide_eq_false c31
                                              clear c31
                                              have H' := Aside0.mk H
                                              clear H
                                              go_wp2
                                              go_roundg k5
                                              case measure => have := HJ2.out; have := HK2.out; have := HJ12.out; have := HJ23.out; have := HK5.out; omega
                                              case rel => exact ⟨(x6_5), ((wrap64 (ji18 + t1014))), (by first | rfl | (simp; done) | (simp only [← hji18] <;> (first | rfl | simp)) | (simp [*]; done)), H', ⟨by have := HJ2.out; have := HK2.out; have := HJ12.out; have := HJ23.out; have := HK5.out; omega⟩, ⟨by (with_reducible repeat (first | apply Kd.R_alloc | apply Kd.R_drewN | apply Kd.R_drew)); exact HO_6.out⟩, ⟨by repeat (first | (with_reducible first | exact HB.out | apply below_alloc | apply pw_below_drewN | apply below_drew1) | exact HB.out)⟩⟩
                                · rw [if_neg c22] at H
                                  have c22b0 : (t1015 == 0) = false := beq_eq_false_iff_ne.mpr c22
                                  have c22b1 : (t1015 != 0) = true := bne_iff_ne.mpr c22
                                  simp only [Option.some.injEq, Prod.mk.injEq] at H
                                  obtain ⟨rfl, rfl⟩ := H
                                  obtain ⟨i034, hi034, _, hsz34, _⟩ := info_parts info5
                                  obtain ⟨A34, hcut34, hA34, hC34⟩ := print_drop_of (P := Try.prog) (Value.int .u8) 0 22 5 .i64 Try.underlying22 hi034 hsz34 A0 c0 l0 (ji18) (of_decide_eq_true (by first | (with_reducible assumption) | assumption)) (of_decide_eq_true (by first | (with_reducible assumption) | assumption)) HC0.out
                                  have HR1012 := Aside0.mk (Kd.C_of_reads (h1 := fun _ => rfl) (hA34 _ (Kd.reads_of_C HR0.out)))
                                  have HC1012 := Aside0.mk hC34
                                  clear hA34 hC34 hi034 hsz34
                                  go_wp2_with (first | ((with_reducible refine gate_callee (f := 108) rfl ?_); refine goesL_ (some 61) rfl rfl Try.func108 (by kernel_rfl) rfl #[.slice A34 (l0.drop ((ji18) : Int).toNat).length (c0 - (ji18).toNat)] rfl (by (try simp only [List.map_toArray, List.map_cons, List.map_nil]); first | done | (rw [show (l0.drop ((ji18) : Int).toNat).length = (l0.length - (ji18).toNat) from List.length_drop] <;> rfl) | (simp only [hji18]; rfl) | rfl | (simp only [List.length_drop, List.length_take]; rfl)) ?_; (with_reducible refine (tidelineref02_Get.calls kj12 _ _ (l0.drop ((ji18) : Int).toNat) t1013 t1014 t1015 _ ?side1 ?side2 A21.out).mono ?_); (case side1 => repeat (first | exact (Kd.C_below HR1012.out HB.out) | (with_reducible refine Kd.C_alloc ?_ _) | (with_reducible refine Kd.C_drewN ?_ _) | (with_reducible refine Kd.C_drew ?_))); (case side2 => exact HC1012.out); rintro e w' ⟨rfl, ⟨nd, rfl⟩⟩; refine ⟨_, rfl, ?_⟩))
                                  go_ret2
                                  exact ⟨_, by first | rfl | (simp [errW_none, errW_some] <;> rfl) | (simp only [← hji18]; first | rfl | (simp [errW_none, errW_some] <;> rfl)) | (simp [*, errW_none, errW_some] <;> rfl), by first | exact Kd.R_nil _ _ _ _ _ | exact Kd.N_nil _ _ _ _ _ | exact Kd.V_nil _ _ _ _ _ | exact Kd.Q_nil _ _ _ _ _ | exact Kd.S_nil _ _ _ _ _, by repeat (first | (with_reducible first | exact HB.out | apply below_alloc | apply pw_below_drewN | apply below_drew1) | exact HB.out)⟩
                              · rw [if_neg c20] at H
                                exact absurd H (by simp)
                            · rw [if_neg c19] at H
                              exact absurd H (by simp)
                    · rw [if_neg c12] at H
                      have c12b0 : (t1011 == 0) = false := beq_eq_false_iff_ne.mpr c12
                      have c12b1 : (t1011 != 0) = true := bne_iff_ne.mpr c12
                      simp only [Option.some.injEq, Prod.mk.injEq] at H
                      obtain ⟨rfl, rfl⟩ := H
                      obtain ⟨Ao35, co35, eo35⟩ := Kd.R_slice HO_6.out
                      subst eo35
                      obtain ⟨i036, hi036, _, hsz36, _⟩ := info_parts info5
                      obtain ⟨A36, hcut36, hA36, hC36⟩ := print_drop_of (P := Try.prog) (Value.int .u8) 0 22 5 .i64 Try.underlying22 hi036 hsz36 A0 c0 l0 x7_2 (of_decide_eq_true (by first | (with_reducible assumption) | assumption)) (of_decide_eq_true (by first | (with_reducible assumption) | assumption)) HC0.out
                      have HR1008 := Aside0.mk (Kd.C_of_reads (h1 := fun _ => rfl) (hA36 _ (Kd.reads_of_C HR0.out)))
                      have HC1008 := Aside0.mk hC36
                      clear hA36 hC36 hi036 hsz36
                      go_wp2_with (first | ((with_reducible refine gate_callee (f := 108) rfl ?_); refine goesL_ (some 36) rfl rfl Try.func108 (by kernel_rfl) rfl #[.slice A36 (l0.drop (x7_2 : Int).toNat).length (c0 - x7_2.toNat)] rfl (by (try simp only [List.map_toArray, List.map_cons, List.map_nil]); first | done | (rw [show (l0.drop (x7_2 : Int).toNat).length = (l0.length - x7_2.toNat) from List.length_drop] <;> rfl) | rfl | (simp only [List.length_drop, List.length_take]; rfl)) ?_; (with_reducible refine (tidelineref02_Get.calls k2 _ _ (l0.drop (x7_2 : Int).toNat) t1009 t1010 t1011 _ ?side1 ?side2 A11.out).mono ?_); (case side1 => repeat (first | exact (Kd.C_below HR1008.out HB.out) | (with_reducible refine Kd.C_alloc ?_ _) | (with_reducible refine Kd.C_drewN ?_ _) | (with_reducible refine Kd.C_drew ?_))); (case side2 => exact HC1008.out); rintro e w' ⟨rfl, ⟨nd, rfl⟩⟩; refine ⟨_, rfl, ?_⟩))
                      go_ret2
                      exact ⟨_, by first | rfl | (simp [errW_none, errW_some] <;> rfl) | (simp [*, errW_none, errW_some] <;> rfl), by first | exact Kd.R_nil _ _ _ _ _ | exact Kd.N_nil _ _ _ _ _ | exact Kd.V_nil _ _ _ _ _ | exact Kd.Q_nil _ _ _ _ _ | exact Kd.S_nil _ _ _ _ _, by repeat (first | (with_reducible first | exact HB.out | apply below_alloc | apply pw_below_drewN | apply below_drew1) | exact HB.out)⟩
                  · rw [if_neg c10] at H
                    exact absurd H (by simp)
                · rw [if_neg c9] at H
                  exact absurd H (by simp)
            · rw [if_neg c6] at H
              have c6b0 : decide ((x6_2.length : Int) < a1) = false := decide_eq_false c6
              clear c6
              by_cases c37 : x7_2 = (l0.length : Int)
              · rw [if_pos c37] at H
                have c37b0 : (x7_2 == (l0.length : Int)) = true := beq_iff_eq.mpr c37
                have c37b1 : (x7_2 != (l0.length : Int)) = false := bne_eq_false_iff_eq.mpr c37
                clear c37
                have H' := Aside0.mk H
                clear H
                obtain ⟨Ao38, co38, eo38⟩ := Kd.R_slice HO_6.out
                subst eo38
                go_wp2
                go_loopg [14, 15, 16, 17] k2 (fun kq v14 v15 v16 v17 w' => ∃ (x14_3 : List Int) (x15_3 : Int) (x16_3 : Int) (x17_3 : Int), v15 = .int .u64 x15_3 ∧ v16 = .int .u64 x16_3 ∧ v17 = .int .i64 x17_3 ∧ Aside0 (tidelineref05_Get.l2 kq x6_2 x14_3 x15_3 x16_3 x17_3 = some (r1, r2)) ∧ Aside0 (kq ≤ k2) ∧ Aside0 (Kd.R (Kd.int .u64) 84 w' w.heap.size (fun _ => True) (.slice Ao38 x6_2.length co38) x6_2) ∧ Aside0 (Kd.R (Kd.int .i64) 2 w' w.heap.size (fun _ => True) v14 x14_3) ∧ Aside0 (Below w.heap.size w w'))
                case atStart => exact ⟨(([] : List Int)), (0), (0), (0), (by first | rfl | (simp; done) | (simp [*]; done)), (by first | rfl | (simp; done) | (simp [*]; done)), (by first | rfl | (simp; done) | (simp [*]; done)), H', ⟨Nat.le_refl _⟩, ⟨by (with_reducible repeat (first | apply Kd.R_alloc | apply Kd.R_drewN | apply Kd.R_drew)); exact HO_6.out⟩, ⟨by first | exact Kd.R_nil _ _ _ _ _ | exact Kd.N_nil _ _ _ _ _ | exact Kd.V_nil _ _ _ _ _ | exact Kd.Q_nil _ _ _ _ _ | exact Kd.S_nil _ _ _ _ _⟩, ⟨by repeat (first | (with_reducible first | exact HB.out | apply below_alloc | apply pw_below_drewN | apply below_drew1) | exact HB.out)⟩⟩
                case round =>
                  clear H'
                  try clear c1
                  try clear p1
                  try clear q1
                  try clear hx1
                  try clear c2
                  try clear p2
                  try clear c3
                  try clear c4
                  try clear c4b0
                  try clear c5
                  try clear c6
                  try clear c6b0
                  try clear p6
                  try clear c7
                  try clear c7b0
                  try clear c7b1
                  try clear c9
                  try clear c9b0
                  try clear c9b1
                  try clear c10
                  try clear c10b0
                  try clear c10b1
                  try clear p10
                  try clear q10
                  try clear hx10
                  try clear c12
                  try clear c12b0
                  try clear c12b1
                  try clear c13
                  try clear c14
                  try clear c16
                  try clear c16b0
                  try clear c16b1
                  try clear c17
                  try clear c19
                  try clear c19b0
                  try clear c19b1
                  try clear c20
                  try clear c20b0
                  try clear c20b1
                  try clear c22
                  try clear c22b0
                  try clear c22b1
                  try clear c26
                  try clear c26b0
                  try clear c26b1
                  try clear c28
                  try clear c28b0
                  try clear c29
                  try clear c29b0
                  try clear c30
                  try clear c31
                  try clear c31b0
                  try clear c32
                  try clear c37
                  try clear c37b0
                  try clear c37b1
                  try clear hx1017_0
                  try clear p1
                  try clear p10
                  try clear p1017
                  try clear p2
                  try clear p6
                  try clear q1
                  try clear q10
                  try clear q1017
                  obtain ⟨x14_3, x15_3, x16_3, x17_3, rfl, rfl, rfl, HA, HK3, HO_6, HO_14, HB⟩ := hrel
                  cases gk with
                  | zero => exact absurd HA.out (by simp [tidelineref05_Get.l2])
                  | succ k3 =>
                    have H := HA.out
                    clear HA
                    simp only [tidelineref05_Get.l2] at H
                    by_cases c39 : x17_3 < (x6_2.length : Int)
                    · rw [if_pos c39] at H
                      have c39b0 : decide (x17_3 < (x6_2.length : Int)) = true := decide_eq_true c39
                      clear c39
                      by_cases c40 : 0 ≤ x17_3
                      · rw [if_pos c40] at H
                        have c40b0 : decide (0 ≤ x17_3) = true := decide_eq_true c40
                        clear c40
                        by_cases c41 : x14_3.length < 17592186044416
                        · rw [if_pos c41] at H
                          have LMc41 := Aside0.mk c41
                          clear c41
                          obtain ⟨y1022, hy1022⟩ : ∃ y_ : List Int, y_ = (x14_3 ++ [wrap64 (IntKind.u64.wrap (x16_3 + (IntKind.u64.wrap (x15_3 + (rd x6_2 x17_3)))))]) := ⟨_, rfl⟩
                          replace H : (tidelineref05_Get.l2 k3 x6_2 y1022 (IntKind.u64.wrap (x15_3 + (rd x6_2 x17_3))) (IntKind.u64.wrap (x16_3 + (IntKind.u64.wrap (x15_3 + (rd x6_2 x17_3))))) (wrap64 (x17_3 + 1))) = some (r1, r2) := by first | (rw [hy1022]; with_reducible exact H) | (have H2_ := (Option.bind_some _ _).symm.trans H; rw [hy1022]; with_reducible exact H2_) | (have H2_ := (Option.bind_some _ _).symm.trans H; with_reducible exact H2_) | with_reducible exact H | (rw [hy1022]; exact H) | exact H
                          have Ny1022 := Aside0.mk hy1022
                          clear hy1022
                          have H' := Aside0.mk H
                          clear H
                          have p1021 : 0 ≤ (x17_3 : Int) := of_decide_eq_true (by first | (with_reducible assumption) | assumption)
                          have q1021 : x17_3 < (x6_2.length : Int) := of_decide_eq_true (by first | (with_reducible assumption) | assumption)
                          obtain ⟨ad1021, e1021, hx1021_0⟩ := Kd.at_int (Kd.R_reads' HO_6.out).2.2 x17_3 p1021 q1021
                          cases e1021
                          replace p1021 := eq_true p1021
                          replace q1021 := eq_true q1021
                          go_wp2_with (first | ((with_reducible refine gate_builtin (b := .append) (xs := #[.tmp 115, .tmp 118]) rfl ?_); (try (refine gate_guard (by rfl) ?_; dsimp only)); at_builtin; refine Kd.R_append (Kd.int .i64) (w0 := w) w.heap.size rfl (.tmp 115) (.tmp 118) 122 2 (.int .i64 0) 8 rfl Try.underlying122 info2 rfl (by decide) (by omega) u14 x14_3 (wrap64 (IntKind.u64.wrap (x16_3 + (IntKind.u64.wrap (x15_3 + (rd x6_2 x17_3)))))) [.int .i64 (wrap64 (IntKind.u64.wrap (x16_3 + (IntKind.u64.wrap (x15_3 + (rd x6_2 x17_3))))))] (fun _ => True) (fun _ => False) rfl rfl ?aP (fun _ hk => hk.elim) ?aF ?aO ?aB ?aS ?aL ?_; (case aP => exact rfl); (case aB => exact (by repeat (first | (with_reducible first | exact HB.out | apply below_alloc | apply pw_below_drewN | apply below_drew1) | exact HB.out))); (case aF => exact (fun _ _ => trivial)); (case aO => exact (by (with_reducible repeat (first | apply Kd.R_alloc | apply Kd.R_drewN | apply Kd.R_drew)); exact HO_14.out)); (case aS => exact (below_size (by repeat (first | (with_reducible first | exact HB.out | apply below_alloc | apply pw_below_drewN | apply below_drew1) | exact HB.out)))); (case aL => have := LMc41.out; omega); intro v1023 w42 ho hb hg hat; rw [← Ny1022.out] at ho; have n0_ := Aside0.mk (Kd.R_over' (by (with_reducible repeat (first | apply Kd.R_alloc | apply Kd.R_drewN | apply Kd.R_drew)); exact HO_6.out) (Kd.R_typed (by (with_reducible repeat (first | apply Kd.R_alloc | apply Kd.R_drewN | apply Kd.R_drew)); exact HO_14.out)) (by decide) hg); have n1_ := Aside0.mk (hb); have n2_ := Aside0.mk (ho); clear HO_6; clear HB; clear HO_14; have HO_6 := n0_; have HB := n1_; have HO1024 := n2_; clear n0_ n1_ n2_; clear ho hb hg hat))
                          go_roundg k3
                          case measure => have := HJ2.out; have := HK2.out; have := HK3.out; omega
                          case rel => exact ⟨(y1022), (IntKind.u64.wrap (x15_3 + (rd x6_2 x17_3))), (IntKind.u64.wrap (x16_3 + (IntKind.u64.wrap (x15_3 + (rd x6_2 x17_3))))), (wrap64 (x17_3 + 1)), (by first | rfl | (simp; done) | (simp [*]; done)), (by first | rfl | (simp; done) | (simp [*]; done)), (by first | rfl | (simp; done) | (simp [*]; done)), H', ⟨by have := HJ2.out; have := HK2.out; have := HK3.out; omega⟩, ⟨by (with_reducible repeat (first | apply Kd.R_alloc | apply Kd.R_drewN | apply Kd.R_drew)); exact HO_6.out⟩, ⟨by (with_reducible repeat (first | apply Kd.R_alloc | apply Kd.R_drewN | apply Kd.R_drew)); exact HO1024.out⟩, ⟨by repeat (first | (with_reducible first | exact HB.out | apply below_alloc | apply pw_below_drewN | apply below_drew1) | exact HB.out)⟩⟩
                        · rw [if_neg c41] at H
                          exact absurd H (by simp)
                      · rw [if_neg c40] at H
                        exact absurd H (by simp)
                    · rw [if_neg c39] at H
                      have c39b0 : decide (x17_3 < (x6_2.length : Int)) = false := decide_eq_false c39
                      clear c39
                      simp only [Option.some.injEq, Prod.mk.injEq] at H
                      obtain ⟨rfl, rfl⟩ := H
                      go_wp2
                      go_ret2
                      exact ⟨_, by first | rfl | (simp [errW_none, errW_some] <;> rfl) | (simp [*, errW_none, errW_some] <;> rfl), by (with_reducible repeat (first | apply Kd.R_alloc | apply Kd.R_drewN | apply Kd.R_drew)); exact HO_14.out, by repeat (first | (with_reducible first | exact HB.out | apply below_alloc | apply pw_below_drewN | apply below_drew1) | exact HB.out)⟩
              · rw [if_neg c37] at H
                have c37b0 : (x7_2 == (l0.length : Int)) = false := beq_eq_false_iff_ne.mpr c37
                have c37b1 : (x7_2 != (l0.length : Int)) = true := bne_iff_ne.mpr c37
                simp only [Option.some.injEq, Prod.mk.injEq] at H
                obtain ⟨rfl, rfl⟩ := H
                obtain ⟨Ao43, co43, eo43⟩ := Kd.R_slice HO_6.out
                subst eo43
                go_wp2
                go_ret2
                exact ⟨_, by first | rfl | (simp [errW_none, errW_some] <;> rfl) | (simp [*, errW_none, errW_some] <;> rfl), by first | exact Kd.R_nil _ _ _ _ _ | exact Kd.N_nil _ _ _ _ _ | exact Kd.V_nil _ _ _ _ _ | exact Kd.Q_nil _ _ _ _ _ | exact Kd.S_nil _ _ _ _ _, by repeat (first | (with_reducible first | exact HB.out | apply below_alloc | apply pw_below_drewN | apply below_drew1) | exact HB.out)⟩

end Go.Proofs.Ytlmcefhpnfoahaa.P
end

section
namespace Go.Proofs.Ytlmcefhpnfoahaa.P
open Go.RowKit Go.Proofs.YtlmcefhpnfoahaaW.PrintWords Go.Proofs.YtlmcefhpnfoahaaW.PrintLast Go.Proofs.YtlmcefhpnfoahaaW.PrintMore
set_option linter.unusedVariables false
set_option linter.unusedSimpArgs false

end Go.Proofs.Ytlmcefhpnfoahaa.P
end

section
namespace Go.Proofs.Ytlmcefhpnfoahaa.P
open Go.RowKit Go.Proofs.YtlmcefhpnfoahaaW.PrintWords Go.Proofs.YtlmcefhpnfoahaaW.PrintLast Go.Proofs.YtlmcefhpnfoahaaW.PrintMore
attribute [local go_sem] max2_int min2_int max_two min_two max_three min_three max_four min_four   -- for this text's walks alone
set_option linter.unusedVariables false
set_option linter.unusedSimpArgs false

end Go.Proofs.Ytlmcefhpnfoahaa.P
end

section
namespace Go.Proofs.Ytlmcefhpnfoahaa.P
open Go.RowKit Go.Proofs.YtlmcefhpnfoahaaW.PrintWords Go.Proofs.YtlmcefhpnfoahaaW.PrintLast Go.Proofs.YtlmcefhpnfoahaaW.PrintMore
attribute [local go_sem] max2_int min2_int max_two min_two max_three min_three max_four min_four   -- for this text's walks alone
set_option linter.unusedVariables false
set_option linter.unusedSimpArgs false

end Go.Proofs.Ytlmcefhpnfoahaa.P
end

section
namespace Go.Proofs.Ytlmcefhpnfoahaa.P
open Go.RowKit Go.Proofs.YtlmcefhpnfoahaaW.PrintWords Go.Proofs.YtlmcefhpnfoahaaW.PrintLast Go.Proofs.YtlmcefhpnfoahaaW.PrintMore
attribute [local go_sem] max2_int min2_int max_two min_two max_three min_three max_four min_four   -- for this text's walks alone
set_option linter.unusedVariables false
set_option linter.unusedSimpArgs false

end Go.Proofs.Ytlmcefhpnfoahaa.P
end

section
namespace Go.Proofs.Ytlmcefhpnfoahaa.P
open Go.RowKit Go.Proofs.YtlmcefhpnfoahaaW.PrintWords Go.Proofs.YtlmcefhpnfoahaaW.PrintLast Go.Proofs.YtlmcefhpnfoahaaW.PrintMore
attribute [local go_sem] max2_int min2_int max_two min_two max_three min_three max_four min_four   -- for this text's walks alone
set_option linter.unusedVariables false
set_option linter.unusedSimpArgs false

end Go.Proofs.Ytlmcefhpnfoahaa.P
end

section
namespace Go.Proofs.Ytlmcefhpnfoahaa.P
open Go.RowKit Go.Proofs.YtlmcefhpnfoahaaW.PrintWords Go.Proofs.YtlmcefhpnfoahaaW.PrintLast Go.Proofs.YtlmcefhpnfoahaaW.PrintMore
attribute [local go_sem] max2_int min2_int max_two min_two max_three min_three max_four min_four   -- for this text's walks alone
set_option linter.unusedVariables false
set_option linter.unusedSimpArgs false

end Go.Proofs.Ytlmcefhpnfoahaa.P
end

section
namespace Go.Proofs.Ytlmcefhpnfoahaa.P
open Go.RowKit Go.Proofs.YtlmcefhpnfoahaaW.PrintWords Go.Proofs.YtlmcefhpnfoahaaW.PrintLast Go.Proofs.YtlmcefhpnfoahaaW.PrintMore
set_option linter.unusedVariables false
set_option linter.unusedSimpArgs false

theorem shl_bit' (i : Nat) : shl .u8 1 ((i % 8 : Nat) : Int) = 2 ^ (i % 8) := by
  unfold shl
  rw [Int.toNat_natCast, show IntKind.u8.bits = 8 from rfl, Nat.min_eq_left (by omega), Int.one_mul]
  exact u8_pow (i % 8) (by omega)
/-- The bit's byte, and the store into it. -/
theorem bitsN_next (p : Nat → Bool) (i : Nat) : bitsN p (i + 1) = if p i then (if i % 8 = 0 then bitsN p i ++ [0] else bitsN p i).set (i / 8) (rd (if i % 8 = 0 then bitsN p i ++ [0] else bitsN p i) ((i / 8 : Nat) : Int) + 2 ^ (i % 8)) else (if i % 8 = 0 then bitsN p i ++ [0] else bitsN p i) := rfl
theorem bitsN_length (p : Nat → Bool) (i : Nat) : (bitsN p i).length = (i + 7) / 8 := by rw [bitsN_lay, lay_length]
theorem bitsN_sum (p : Nat → Bool) (i : Nat) (hp : p i = true) : 0 ≤ rd (if i % 8 = 0 then bitsN p i ++ [0] else bitsN p i) ((i / 8 : Nat) : Int) + 2 ^ (i % 8) ∧ rd (if i % 8 = 0 then bitsN p i ++ [0] else bitsN p i) ((i / 8 : Nat) : Int) + 2 ^ (i % 8) ≤ 255 := by
  have h := bitsN_next p i
  rw [if_pos hp] at h
  have hl := bitsN_length p i
  obtain ⟨M, hM⟩ : ∃ M, M = (if i % 8 = 0 then bitsN p i ++ [0] else bitsN p i) := ⟨_, rfl⟩
  have hMl : i / 8 < M.length := by
    rw [hM]
    by_cases h8 : i % 8 = 0
    · rw [if_pos h8, List.length_append, List.length_singleton]; omega
    · rw [if_neg h8]; omega
  rw [← hM] at h ⊢
  have hb := lay_bytes p (i + 1)
  rw [← bitsN_lay, h] at hb
  have := hb _ (List.mem_set hMl _)
  simpa [isByte] using this
end Go.Proofs.Ytlmcefhpnfoahaa.P
end

section
namespace Go.Proofs.Ytlmcefhpnfoahaa.P
open Go.RowKit Go.Proofs.YtlmcefhpnfoahaaW.PrintWords Go.Proofs.YtlmcefhpnfoahaaW.PrintLast Go.Proofs.YtlmcefhpnfoahaaW.PrintMore
set_option linter.unusedVariables false
set_option linter.unusedSimpArgs false

theorem refGet_k (l : List Int) (hl : l.length ≤ 1000000) (hb : ∀ x ∈ l, isByte x = true) (k : Nat) (hk : 31 ≤ k) : tidelineref02_Get.f k l = some (vget l) :=
  leO_le (g := fun k => tidelineref02_Get.f k l) (tidelineref02_Get.mono l) hk (refGet_f l hl hb)
theorem refPut_k (v : Int) (h0 : 0 ≤ v) (h1 : v ≤ 18446744073709551615) (k : Nat) (hk : 10 ≤ k) : tidelineref02_Put.f k v = some (vput 9 v) :=
  leO_le (g := fun k => tidelineref02_Put.f k v) (tidelineref02_Put.mono v) hk (refPut_f v h0 h1)
theorem shr_bit (b : List Int) (hb : ∀ x ∈ b, isByte x = true) (i : Nat) : (Int.tmod (shr .u8 (rd b ((i / 8 : Nat) : Int)) ((i % 8 : Nat) : Int)) 2 = 1) ↔ bitAt b i = true := by
  unfold shr bitAt
  rw [Int.toNat_natCast, show IntKind.u8.bits = 8 from rfl, Nat.min_eq_left (by omega)]
  have h0 : 0 ≤ rd b ((i / 8 : Nat) : Int) := by
    obtain ⟨c, _, e⟩ := byte_nat hb (i / 8)
    omega
  have hp : (0 : Int) < 2 ^ (i % 8) := Int.pow_pos (by decide)
  have hd : 0 ≤ rd b ((i / 8 : Nat) : Int) / 2 ^ (i % 8) := Int.ediv_nonneg h0 (by omega)
  rw [Int.tmod_eq_emod_of_nonneg hd, beq_iff_eq]
def looseF (b : List Int) (i d : Nat) : Bool := (List.range d).any fun j => bitAt b (i + j)
theorem looseF_succ (b : List Int) (i d : Nat) : looseF b i (d + 1) = (bitAt b i || looseF b (i + 1) d) := by
  unfold looseF
  rw [List.range_succ_eq_map, List.any_cons, List.any_map, Nat.add_zero]
  congr 1
  congr 1
  funext j
  show bitAt b (i + (j + 1)) = bitAt b (i + 1 + j)
  congr 1; omega
end Go.Proofs.Ytlmcefhpnfoahaa.P
end

section
namespace Go.Proofs.Ytlmcefhpnfoahaa.P
open Go.RowKit Go.Proofs.YtlmcefhpnfoahaaW.PrintWords Go.Proofs.YtlmcefhpnfoahaaW.PrintLast Go.Proofs.YtlmcefhpnfoahaaW.PrintMore
set_option linter.unusedVariables false
set_option linter.unusedSimpArgs false

theorem shr_bitB (b : List Int) (hb : ∀ x ∈ b, isByte x = true) (i : Nat) : (Int.tmod (shr .u8 (rd b ((i / 8 : Nat) : Int)) ((i % 8 : Nat) : Int)) 2 == 1) = bitAt b i := by
  rw [Bool.eq_iff_iff, beq_iff_eq]
  exact shr_bit b hb i
theorem refBits_hi (b : List Int) (hb : ∀ x ∈ b, isByte x = true) (n : Nat) (hn : n ≤ 70000) (hl : (n + 7) / 8 ≤ b.length) (X : List Bool) : ∀ (d k i : Nat), i + d = 8 * ((n + 7) / 8) → n ≤ i → 2 * d < k →
    tidelineref06_bits.l0 k b (n : Int) (((n + 7) / 8 : Nat) : Int) X (i : Int) = some (if looseF b i d = true then ([], 0, 21) else (X, (((n + 7) / 8 : Nat) : Int), 0)) := by
  intro d
  induction d with
  | zero =>
    intro k i hi hni hk
    obtain ⟨k, rfl⟩ : ∃ j, k = j + 1 := ⟨k - 1, by omega⟩
    have e8 : wrap64 (8 * (((n + 7) / 8 : Nat) : Int)) = ((8 * ((n + 7) / 8) : Nat) : Int) := by unfold wrap64; omega
    rw [tidelineref06_bits.l0, e8, if_neg (by omega), if_neg (show ¬ looseF b i 0 = true by simp [looseF])]
  | succ d ih =>
    intro k i hi hni hk
    obtain ⟨k, rfl⟩ : ∃ j, k = j + 2 := ⟨k - 2, by omega⟩
    have e8 : wrap64 (8 * (((n + 7) / 8 : Nat) : Int)) = ((8 * ((n + 7) / 8) : Nat) : Int) := by unfold wrap64; omega
    rw [tidelineref06_bits.l0, e8, if_pos (by omega), tdiv8 i (by omega), tmod8, if_pos (by omega), if_pos (by omega), if_pos (by omega), shr_bitB b hb i, if_pos (by omega), tidelineref06_bits.j1, looseF_succ]
    by_cases hbit : bitAt b i = true
    · rw [if_pos hbit, hbit, Bool.true_or, if_pos rfl]
    · rw [if_neg hbit, if_neg (by omega), w64s i (by omega), ih k (i + 1) (by omega) (by omega) (by omega), Bool.eq_false_iff.mpr hbit, Bool.false_or]
def bitsR (b : List Int) (n : Nat) : List Bool × Int × Int :=
  if b.length < (n + 7) / 8 then ([], 0, 20) else if loose b n = true then ([], 0, 21) else ((List.range n).map (bitAt b), (((n + 7) / 8 : Nat) : Int), 0)
theorem refBits_lo (b : List Int) (hb : ∀ x ∈ b, isByte x = true) (n : Nat) (hn : n ≤ 70000) (hl : (n + 7) / 8 ≤ b.length) : ∀ (d k i : Nat), i + d = n → 2 * d + 20 < k →
    tidelineref06_bits.l0 k b (n : Int) (((n + 7) / 8 : Nat) : Int) ((List.range i).map (bitAt b)) (i : Int) = some (if loose b n = true then ([], 0, 21) else ((List.range n).map (bitAt b), (((n + 7) / 8 : Nat) : Int), 0)) := by
  intro d
  induction d with
  | zero =>
    intro k i hi hk
    obtain rfl : i = n := by omega
    exact refBits_hi b hb i hn hl _ (8 * ((i + 7) / 8) - i) k i (by omega) (Nat.le_refl _) (by omega)
  | succ d ih =>
    intro k i hi hk
    obtain ⟨k, rfl⟩ : ∃ j, k = j + 2 := ⟨k - 2, by omega⟩
    have e8 : wrap64 (8 * (((n + 7) / 8 : Nat) : Int)) = ((8 * ((n + 7) / 8) : Nat) : Int) := by unfold wrap64; omega
    have er : (List.range i).map (bitAt b) ++ [bitAt b i] = (List.range (i + 1)).map (bitAt b) := by rw [List.range_succ, List.map_append]; rfl
    rw [tidelineref06_bits.l0, e8, if_pos (by omega), tdiv8 i (by omega), tmod8, if_pos (by omega), if_pos (by omega), if_pos (by omega), shr_bitB b hb i, if_neg (by omega), tidelineref06_bits.j1, if_neg (by decide), if_pos (by omega), if_pos (by simp; omega), er, w64s i (by omega)]
    exact ih k (i + 1) (by omega) (by omega)
theorem refBits_f (b : List Int) (hb : ∀ x ∈ b, isByte x = true) (n : Nat) (hn : n ≤ 70000) (k : Nat) (hk : 2 * n + 20 < k) : tidelineref06_bits.f k b (n : Int) = some (bitsR b n) := by
  have e1 : wrap64 ((n : Int) + 7) = ((n + 7 : Nat) : Int) := by unfold wrap64; omega
  unfold tidelineref06_bits.f bitsR
  rw [e1, tdiv8 (n + 7) (by omega)]
  by_cases h : b.length < (n + 7) / 8
  · rw [if_pos (by omega), if_pos h]
  · rw [if_neg (by omega), if_neg h]
    exact refBits_lo b hb n hn (by omega) n k 0 (by omega) hk
def uwm (x : Int) : Int := x % 18446744073709551616
theorem uwm_eq (x : Int) : IntKind.u64.wrap x = uwm x := rfl
theorem uwm_inj (a b : Int) (ha : i64 a) (hb : i64 b) (h : uwm a = uwm b) : a = b := by unfold uwm at h; unfold i64 at ha hb; omega
theorem uwm_add (a b : Int) : uwm (uwm a + uwm b) = uwm (wrap64 (a + b)) := by unfold uwm wrap64; omega
theorem wrap64_uwm (a : Int) : wrap64 (uwm (wrap64 a)) = wrap64 a := by unfold uwm wrap64; omega
theorem rd_map (cs : List Int) (i : Nat) (h : i < cs.length) : rd (cs.map uwm) (i : Int) = uwm (rd cs (i : Int)) := by
  rw [rd_get (by simpa using h), rd_get h, List.getElem_map]
theorem refInts_l2 (cs : List Int) (hl : cs.length ≤ 1000000) : ∀ (d k i : Nat) (acc : List Int) (last step : Int), i + d = cs.length → d < k → acc.length = i → tidelineref05_Get.l2 k (cs.map uwm) acc (uwm step) (uwm last) (i : Int) = some (acc ++ sums last step (cs.drop i), 0) := by
  intro d
  induction d with
  | zero =>
    intro k i acc last step hi hk ha
    obtain ⟨k, rfl⟩ : ∃ j, k = j + 1 := ⟨k - 1, by omega⟩
    rw [tidelineref05_Get.l2, List.length_map, if_neg (by omega), List.drop_of_length_le (by omega), sums, List.append_nil]
  | succ d ih =>
    intro k i acc last step hi hk ha
    obtain ⟨k, rfl⟩ : ∃ j, k = j + 1 := ⟨k - 1, by omega⟩
    have hlt : i < cs.length := by omega
    rw [tidelineref05_Get.l2, List.length_map, if_pos (by omega), if_pos (by omega), if_pos (by omega), rd_map cs i hlt, uwm_eq, uwm_eq, uwm_add step (rd cs (i : Int)), uwm_add last (wrap64 (step + rd cs (i : Int))), wrap64_uwm, w64s i (by omega), ih k (i + 1) _ _ _ (by omega) (by omega) (by simp; omega), List.drop_eq_getElem_cons hlt, ← rd_get hlt, sums, List.append_assoc]
    rfl
theorem refInts_l1 (b : List Int) (n c : Int) (at_ : Int) (m : Nat) (hm : m ≤ 1000000) : ∀ (d k i : Nat) (X : List Int), i + d = m → X.length + d ≤ 2000000 →
    tidelineref05_Get.l1 (k + d + 1) b n X at_ (m : Int) c (i : Int) = tidelineref05_Get.l0 k b n (X ++ List.replicate d c) at_ := by
  intro d
  induction d with
  | zero =>
    intro k i X hi hX
    rw [Nat.add_zero, tidelineref05_Get.l1, if_neg (by omega), List.replicate_zero, List.append_nil]
  | succ d ih =>
    intro k i X hi hX
    have e : IntKind.u64.wrap ((i : Int) + 1) = ((i + 1 : Nat) : Int) := by rw [uwm_eq]; unfold uwm; omega
    rw [tidelineref05_Get.l1, if_pos (by omega), if_pos (by omega), e, show k + (d + 1) = k + d + 1 by omega, ih k (i + 1) _ (by omega) (by simp; omega), List.append_assoc]
    rfl
theorem zag_i64' (u : Int) (h0 : 0 ≤ u) (h1 : u ≤ 18446744073709551615) : i64 (zag u) := zag_range u h0 h1
def finI (X : List Int) (p : List Int × Int) : List Int × Int := if p.2 = 0 then (sums 0 0 (X ++ p.1), 0) else ([], p.2)
theorem refInts_l0 (b : List Int) (n : Nat) (hn : n ≤ 65536) (hl : b.length ≤ 1000000) (hb : ∀ x ∈ b, isByte x = true) : ∀ (f need k at_ : Nat) (X : List Int), need ≤ f → X.length + need = n → 5 * need + n + 40 ≤ k → at_ ≤ b.length → (∀ x ∈ X, i64 x) →
    tidelineref05_Get.l0 k b (n : Int) (X.map uwm) (at_ : Int) = some (finI X (getRuns f need X.getLast? (b.drop at_))) := by
  intro f
  induction f with
  | zero =>
    intro need k at_ X hf hX hk ha hx
    obtain rfl : need = 0 := by omega
    obtain ⟨k, rfl⟩ : ∃ j, k = j + 1 := ⟨k - 1, by omega⟩
    rw [tidelineref05_Get.l0, List.length_map, if_neg (by omega)]
    unfold getRuns
    rw [if_pos rfl, List.length_drop]
    by_cases h : 0 < b.length - at_
    · rw [if_neg (by omega), if_pos h]; rfl
    · have := refInts_l2 X (by omega) X.length k 0 [] 0 0 (by omega) (by omega) rfl
      rw [if_pos (by omega), if_neg h]
      unfold finI
      rw [if_pos rfl, List.append_nil]
      exact this
  | succ f ih =>
    intro need k at_ X hf hX hk ha hx
    obtain ⟨k, rfl⟩ : ∃ j, k = j + 1 := ⟨k - 1, by omega⟩
    rw [tidelineref05_Get.l0, List.length_map]
    unfold getRuns
    rw [List.length_drop]
    by_cases h0 : need = 0
    · subst h0
      rw [if_neg (by omega), if_pos rfl]
      by_cases h : 0 < b.length - at_
      · rw [if_neg (by omega), if_pos h]; rfl
      · have := refInts_l2 X (by omega) X.length k 0 [] 0 0 (by omega) (by omega) rfl
        rw [if_pos (by omega), if_neg h]
        unfold finI
        rw [if_pos rfl, List.append_nil]
        exact this
    rw [if_pos (by omega), if_neg h0]
    by_cases h1 : at_ = b.length
    · rw [if_pos (by omega), if_pos (by omega)]; rfl
    obtain ⟨B, hB⟩ : ∃ B, B = b.drop at_ := ⟨_, rfl⟩
    have hBy : ∀ x ∈ B, isByte x = true := fun x hx => hb x (by rw [hB] at hx; exact List.mem_of_mem_drop hx)
    have hBl : B.length = b.length - at_ := by rw [hB, List.length_drop]
    rw [if_neg (by omega), if_neg (show ¬ (b.length - at_ = 0) from by omega), if_pos (by omega), if_pos (by omega), Int.toNat_natCast, ← hB, refGet_k B (by omega) hBy k (by omega), Option.bind_some]
    have hr := vget_range B hBy
    obtain ⟨u, hu⟩ : ∃ u, u = vget B := ⟨_, rfl⟩
    rw [← hu] at hr ⊢
    by_cases h2 : u.2.2 = 0
    · rw [if_pos h2, if_neg (show ¬ (u.2.2 ≠ 0) from by simpa using h2)]
      obtain ⟨k, rfl⟩ : ∃ j, k = j + 1 := ⟨k - 1, by omega⟩
      by_cases h3 : u.1 = 0
      · rw [if_pos h3, if_pos (Or.inl h3), tidelineref05_Get.j2, if_pos rfl]; rfl
      rw [if_neg h3]
      have hw : IntKind.u64.wrap (wrap64 ((n : Int) - (X.length : Int))) = (need : Int) := by
        rw [uwm_eq, w64 (by omega) (by omega)]
        unfold uwm
        omega
      rw [hw]
      by_cases h4 : u.1 > need
      · rw [decide_eq_true h4, if_pos (Or.inr h4), tidelineref05_Get.j2, if_pos rfl]; rfl
      have hw2 : wrap64 ((at_ : Int) + u.2.1) = ((at_ + u.2.1.toNat : Nat) : Int) := by rw [w64 (by omega) (by omega)]; omega
      rw [decide_eq_false h4, tidelineref05_Get.j2, if_neg (by decide), hw2, if_pos (by omega), if_pos (by omega), Int.toNat_natCast, if_neg (show ¬ (u.1 = 0 ∨ u.1 > (need : Int)) from by omega)]
      obtain ⟨b1, hb1⟩ : ∃ b1, b1 = B.drop u.2.1.toNat := ⟨_, rfl⟩
      have hb1' : b.drop (at_ + u.2.1.toNat) = b1 := by rw [hb1, hB, List.drop_drop]
      have hb1y : ∀ x ∈ b1, isByte x = true := fun x hx => hBy x (by rw [hb1] at hx; exact List.mem_of_mem_drop hx)
      have hb1e : b1.length = B.length - u.2.1.toNat := by rw [hb1, List.length_drop]
      rw [hb1', ← hb1, refGet_k b1 (by omega) hb1y k (by omega), Option.bind_some]
      have hr2 := vget_range b1 hb1y
      obtain ⟨v, hv⟩ : ∃ v, v = vget b1 := ⟨_, rfl⟩
      rw [← hv] at hr2 ⊢
      by_cases h5 : v.2.2 = 0
      · obtain ⟨m, hm⟩ : ∃ m, m = u.1.toNat := ⟨_, rfl⟩
        have hum : u.1 = (m : Int) := by omega
        have hz := zag_i64' v.1 hr2.1 hr2.2.1
        rw [if_pos h5, if_neg (show ¬ (v.2.2 ≠ 0) from by simpa using h5), refZag_f v.1 hr2.1 hr2.2.1, Option.bind_some, uwm_eq]
        obtain ⟨C, hC⟩ : ∃ C, C = B.drop (u.2.1 + v.2.1).toNat := ⟨_, rfl⟩
        have hC' : b.drop (at_ + u.2.1.toNat + v.2.1.toNat) = C := by rw [hC, hB, List.drop_drop]; congr 1; omega
        rw [← hC, ← hm]
        have hgo : tidelineref05_Get.j3 k b (n : Int) (X.map uwm) ((at_ + u.2.1.toNat : Nat) : Int) u.1 v.2.1 (uwm (zag v.1)) false = some (finI (X ++ List.replicate m (zag v.1)) (getRuns f (need - m) (some (zag v.1)) C)) := by
          obtain ⟨k, rfl⟩ : ∃ j, k = j + 1 := ⟨k - 1, by omega⟩
          have hw3 : wrap64 (((at_ + u.2.1.toNat : Nat) : Int) + v.2.1) = ((at_ + u.2.1.toNat + v.2.1.toNat : Nat) : Int) := by rw [w64 (by omega) (by omega)]; omega
          rw [tidelineref05_Get.j3, if_neg (by decide), hw3, hum]
          obtain ⟨k, rfl⟩ : ∃ j, k = j + m + 1 := ⟨k - m - 1, by omega⟩
          have hl1 := refInts_l1 b (n : Int) (uwm (zag v.1)) ((at_ + u.2.1.toNat + v.2.1.toNat : Nat) : Int) m (by omega) m k 0 (X.map uwm) (by omega) (by rw [List.length_map]; omega)
          have hmp : X.map uwm ++ List.replicate m (uwm (zag v.1)) = (X ++ List.replicate m (zag v.1)).map uwm := by rw [List.map_append, List.map_replicate]
          have hlast : (X ++ List.replicate m (zag v.1)).getLast? = some (zag v.1) := by
            obtain ⟨m, rfl⟩ : ∃ j, m = j + 1 := ⟨m - 1, by omega⟩
            rw [List.replicate_succ', ← List.append_assoc, List.getLast?_concat]
          have hih := ih (need - m) k (at_ + u.2.1.toNat + v.2.1.toNat) (X ++ List.replicate m (zag v.1)) (by omega) (by rw [List.length_append, List.length_replicate]; omega) (by omega) (by omega) (fun x hx' => by
            rcases List.mem_append.mp hx' with h | h
            · exact hx x h
            · rw [(List.mem_replicate.mp h).2]; exact hz)
          rw [show ((0 : Nat) : Int) = 0 from rfl] at hl1
          rw [hl1, hmp, hih, hlast, hC']
        have hfin : ∀ p : List Int × Int, finI (X ++ List.replicate m (zag v.1)) p = finI X (if p.2 = 0 then (List.replicate m (zag v.1) ++ p.1, 0) else ([], p.2)) := by
          intro p
          unfold finI
          by_cases hp : p.2 = 0
          · rw [if_pos hp, if_pos hp, if_pos rfl, List.append_assoc]
          · rw [if_neg hp, if_neg hp, if_neg hp]
        rcases List.eq_nil_or_concat X with hXe | ⟨Y, z, hXe⟩
        · have hl0 : X.length = 0 := by rw [hXe]; rfl
          rw [List.length_map, if_neg (by omega), hgo, hfin, if_neg (show ¬ (X.getLast? = some (zag v.1)) from by rw [hXe]; simp)]
        · rw [List.concat_eq_append] at hXe
          have hl0 : X.length = Y.length + 1 := by rw [hXe]; simp
          have hw4 : wrap64 ((X.length : Int) - 1) = ((Y.length : Nat) : Int) := by rw [w64 (by omega) (by omega)]; omega
          have hrd : rd (X.map uwm) ((Y.length : Nat) : Int) = uwm z := by
            rw [rd_map X Y.length (by omega), rd_get (by omega)]
            congr 1
            simp [hXe]
          have hgl : X.getLast? = some z := by rw [hXe, List.getLast?_concat]
          rw [List.length_map, if_pos (by omega), hw4, if_pos (by omega), if_pos (by omega), hrd, hgl]
          by_cases h8 : z = zag v.1
          · obtain ⟨k, rfl⟩ : ∃ j, k = j + 1 := ⟨k - 1, by omega⟩
            rw [if_pos (by rw [h8]), h8, beq_self_eq_true, tidelineref05_Get.j3, if_pos rfl]; rfl
          · have hne : (uwm z == uwm (zag v.1)) = false := by
              rw [Bool.eq_false_iff]
              intro h
              exact h8 (uwm_inj _ _ (hx z (by rw [hXe]; simp)) hz (eq_of_beq h))
            rw [hne, hgo, hfin, if_neg (show ¬ ((some z : Option Int) = some (zag v.1)) from fun e => h8 (by injection e))]
      · rw [if_neg h5, if_pos (show v.2.2 ≠ 0 from h5)]
        unfold finI
        dsimp only
        rw [if_neg h5]
    · rw [if_neg h2, if_pos (show u.2.2 ≠ 0 from h2)]
      unfold finI
      dsimp only
      rw [if_neg h2]
theorem refInts_f (b : List Int) (n : Nat) (hn : n ≤ 65536) (hl : b.length ≤ 1000000) (hb : ∀ x ∈ b, isByte x = true) (k : Nat) (hk : 6 * n + 50 ≤ k) : tidelineref05_Get.f k b (n : Int) = some (getInts b n) := by
  obtain ⟨k, rfl⟩ : ∃ j, k = j + 1 := ⟨k - 1, by omega⟩
  have h := refInts_l0 b n hn hl hb n n k 0 [] (Nat.le_refl n) (by simp) (by omega) (Nat.zero_le _) (fun x hx => by cases hx)
  unfold tidelineref05_Get.f
  rw [if_neg (by omega), decide_eq_false (by omega), tidelineref05_Get.j0, if_neg (by decide)]
  rw [show ((0 : Nat) : Int) = 0 from rfl, List.map_nil] at h
  rw [h, List.drop_zero]
  unfold finI getInts
  rw [List.getLast?_nil, List.nil_append]
end Go.Proofs.Ytlmcefhpnfoahaa.P
end

section
namespace Go.Proofs.Ytlmcefhpnfoahaa.P
open Go.RowKit Go.Proofs.YtlmcefhpnfoahaaW.PrintWords Go.Proofs.YtlmcefhpnfoahaaW.PrintLast Go.Proofs.YtlmcefhpnfoahaaW.PrintMore
set_option linter.unusedVariables false
set_option linter.unusedSimpArgs false

def lastF (l : List Int) (i : Nat) : Int := if i = 0 then 0 else rd l ((i - 1 : Nat) : Int)
def stepF (l : List Int) (i : Nat) : Int := if i = 0 then 0 else wrap64 (rd l ((i - 1 : Nat) : Int) - lastF l (i - 1))
theorem chg_at (l : List Int) (i : Nat) (h : i < l.length) : chg (lastF l i) (stepF l i) (l.drop i) = wrap64 (wrap64 (rd l (i : Int) - lastF l i) - stepF l i) :: chg (lastF l (i + 1)) (stepF l (i + 1)) (l.drop (i + 1)) := by
  have e1 : lastF l (i + 1) = rd l (i : Int) := by unfold lastF; rw [if_neg (by omega), Nat.add_sub_cancel]
  have e2 : stepF l (i + 1) = wrap64 (rd l (i : Int) - lastF l i) := by unfold stepF; rw [if_neg (by omega), Nat.add_sub_cancel]
  rw [e1, e2, List.drop_eq_getElem_cons h, ← rd_get h]
  rfl
theorem refChg_l0 (l : List Int) (hl : l.length ≤ 1000000) : ∀ (d k i : Nat) (X : List Int), i + d = l.length → d < k → X.length = i → tidelineref05_Changes.l0 k l X (i : Int) = some (X ++ (chg (lastF l i) (stepF l i) (l.drop i)).map uwm) := by
  intro d
  induction d with
  | zero =>
    intro k i X hi hk hX
    obtain ⟨k, rfl⟩ : ∃ j, k = j + 1 := ⟨k - 1, by omega⟩
    rw [tidelineref05_Changes.l0, if_neg (by omega), List.drop_of_length_le (by omega)]
    simp [chg]
  | succ d ih =>
    intro k i X hi hk hX
    obtain ⟨k, rfl⟩ : ∃ j, k = j + 1 := ⟨k - 1, by omega⟩
    rw [tidelineref05_Changes.l0, if_pos (by omega), w64s i (by omega), chg_at l i (by omega), List.map_cons]
    have hfin : ∀ v : Int, v = uwm (wrap64 (wrap64 (rd l (i : Int) - lastF l i) - stepF l i)) → tidelineref05_Changes.l0 k l (X ++ [v]) ((i + 1 : Nat) : Int) = some (X ++ uwm (wrap64 (wrap64 (rd l (i : Int) - lastF l i) - stepF l i)) :: (chg (lastF l (i + 1)) (stepF l (i + 1)) (l.drop (i + 1))).map uwm) := by
      intro v hv
      rw [ih k (i + 1) _ (by omega) (by omega) (by simp; omega), hv, List.append_assoc]
      rfl
    by_cases h0 : i = 0
    · subst h0
      rw [if_neg (by omega), if_neg (by omega), if_pos (by omega), if_pos (by omega)]
      refine hfin _ ?_
      have e1 : lastF l 0 = 0 := rfl
      have e2 : stepF l 0 = 0 := rfl
      rw [e1, e2]
      show uwm (uwm (uwm (rd l ((0 : Nat) : Int)))) = _
      generalize rd l ((0 : Nat) : Int) = v
      unfold uwm wrap64
      omega
    · have hm1 : wrap64 ((i : Int) - 1) = ((i - 1 : Nat) : Int) := by rw [w64 (by omega) (by omega)]; omega
      rw [if_pos (by omega), hm1, if_pos (by omega), if_pos (by omega)]
      by_cases h1 : i = 1
      · subst h1
        rw [if_neg (by omega), if_pos (by omega), if_pos (by omega)]
        refine hfin _ ?_
        have e1 : lastF l 1 = rd l ((0 : Nat) : Int) := rfl
        have e2 : stepF l 1 = wrap64 (rd l ((0 : Nat) : Int) - 0) := rfl
        rw [e1, e2]
        show uwm (uwm (uwm (rd l ((1 : Nat) : Int)) - uwm (rd l ((0 : Nat) : Int))) - uwm (rd l ((0 : Nat) : Int))) = _
        generalize rd l ((0 : Nat) : Int) = v
        generalize rd l ((1 : Nat) : Int) = u
        unfold uwm wrap64
        omega
      · have hm2 : wrap64 ((i : Int) - 2) = ((i - 2 : Nat) : Int) := by rw [w64 (by omega) (by omega)]; omega
        rw [if_pos (by omega), hm2, if_pos (by omega), if_pos (by omega), if_pos (by omega), if_pos (by omega)]
        refine hfin _ ?_
        have e1 : lastF l i = rd l ((i - 1 : Nat) : Int) := by unfold lastF; rw [if_neg h0]
        have e2 : stepF l i = wrap64 (rd l ((i - 1 : Nat) : Int) - rd l ((i - 2 : Nat) : Int)) := by
          unfold stepF
          rw [if_neg h0]
          unfold lastF
          rw [if_neg (by omega), show i - 1 - 1 = i - 2 by omega]
        rw [e1, e2]
        show uwm (uwm (uwm (rd l (i : Int)) - uwm (rd l ((i - 1 : Nat) : Int))) - uwm (uwm (rd l ((i - 1 : Nat) : Int)) - uwm (rd l ((i - 2 : Nat) : Int)))) = _
        generalize rd l (i : Int) = v
        generalize rd l ((i - 1 : Nat) : Int) = u
        generalize rd l ((i - 2 : Nat) : Int) = t
        unfold uwm wrap64
        omega
theorem refChg_f (l : List Int) (hl : l.length ≤ 1000000) (k : Nat) (hk : l.length < k) : tidelineref05_Changes.f k l = some ((chg 0 0 l).map uwm) := by
  have := refChg_l0 l hl l.length k 0 [] (by omega) hk rfl
  unfold tidelineref05_Changes.f
  rw [List.drop_zero, List.nil_append] at this
  exact this
theorem wrap64_uw (c : Int) (h : i64 c) : wrap64 (uwm c) = c := by unfold uwm wrap64; unfold i64 at h; omega
theorem enc2_le (n : Nat) (c : Int) : (enc2 n c).length ≤ 20 := by
  have := vput_length 9 (n : Int)
  have := vput_length 9 (zig c)
  unfold enc2
  rw [List.length_append]
  omega
theorem refPutI_l0 (C : List Int) (hl : C.length ≤ 1000000) (hC : ∀ c ∈ C, i64 c) : ∀ (d k i n : Nat) (c : Int) (out : List Int), i + d = C.length → 2 * d + 12 < k → n ≤ i → out.length ≤ 20 * i → (0 < n → i < C.length ∧ rd C (i : Int) = c) → (n = 0 → c = 0) →
    tidelineref05_Put.l0 k (C.map uwm) out (n : Int) (i : Int) = some (out ++ runsTo n c (C.drop i)) := by
  intro d
  induction d with
  | zero =>
    intro k i n c out hi hk hn ho hc hc0
    obtain ⟨k, rfl⟩ : ∃ j, k = j + 1 := ⟨k - 1, by omega⟩
    have hn0 : n = 0 := by
      by_cases h : n = 0
      · exact h
      · have := (hc (by omega)).1; omega
    rw [tidelineref05_Put.l0, List.length_map, if_neg (by omega), List.drop_of_length_le (by omega), hn0]
    simp [runsTo]
  | succ d ih =>
    intro k i n c out hi hk hn ho hc hc0
    obtain ⟨k, rfl⟩ : ∃ j, k = j + 2 := ⟨k - 2, by omega⟩
    have hlt : i < C.length := by omega
    have hd64 : i64 (rd C (i : Int)) := by rw [rd_get hlt]; exact hC _ (List.getElem_mem hlt)
    obtain ⟨e, he⟩ : ∃ e, e = rd C (i : Int) := ⟨_, rfl⟩
    rw [← he] at hd64
    have hun : IntKind.u64.wrap ((n : Int) + 1) = ((n + 1 : Nat) : Int) := by rw [uwm_eq]; unfold uwm; omega
    have hrun : runsTo n c (C.drop i) = runsTo (n + 1) e (C.drop (i + 1)) := by
      rw [List.drop_eq_getElem_cons hlt, ← rd_get hlt, ← he]
      by_cases h0 : 0 < n
      · have := (hc h0).2
        rw [runsTo, if_neg (fun h => h.2 (by rw [he, this]))]
      · rw [runsTo, if_neg (fun h => h0 h.1)]
    have hemit : (∀ x r, C.drop (i + 1) = x :: r → x ≠ e) → tidelineref05_Put.j1 (k + 1) (C.map uwm) out ((n + 1 : Nat) : Int) (i : Int) false = some (out ++ runsTo n c (C.drop i)) := by
      intro hx
      have h2 := enc2_le (n + 1) e
      have hz := zig_range e hd64.1 hd64.2
      have hl1 := vput_length 9 ((n + 1 : Nat) : Int)
      have hl2 := vput_length 9 (zig e)
      rw [hrun, runs_apart (n + 1) e _ (by omega) hx, tidelineref05_Put.j1, if_neg (by decide), refPut_k _ (by omega) (by omega) k (by omega), Option.bind_some, if_pos (by omega), Option.bind_some, if_pos (by omega), List.length_map, if_pos (by omega), rd_map C i hlt, ← he, wrap64_uw e hd64, refZig_f e hd64.1 hd64.2, Option.bind_some, refPut_k _ hz.1 hz.2 k (by omega), Option.bind_some, if_pos (by rw [List.length_append]; omega), w64s i (by omega)]
      have := ih k (i + 1) 0 0 (out ++ vput 9 ((n + 1 : Nat) : Int) ++ vput 9 (zig e)) (by omega) (by omega) (by omega) (by rw [List.length_append, List.length_append]; omega) (fun h => by omega) (fun _ => rfl)
      rw [show ((0 : Nat) : Int) = 0 from rfl] at this
      rw [this]
      unfold enc2
      simp only [List.append_assoc]
    rw [tidelineref05_Put.l0, List.length_map, if_pos (by omega), w64s i (by omega), hun]
    by_cases h1 : i + 1 < C.length
    · have hd1 : C.drop (i + 1) = rd C ((i + 1 : Nat) : Int) :: C.drop (i + 2) := by rw [List.drop_eq_getElem_cons h1, rd_get h1]
      have hn64 : i64 (rd C ((i + 1 : Nat) : Int)) := by rw [rd_get h1]; exact hC _ (List.getElem_mem h1)
      rw [if_pos (by omega), if_pos (by omega), if_pos (by omega), rd_map C (i + 1) h1, rd_map C i hlt, ← he]
      by_cases h2 : rd C ((i + 1 : Nat) : Int) = e
      · rw [h2, beq_self_eq_true, tidelineref05_Put.j1, if_pos rfl, w64s i (by omega), ih k (i + 1) (n + 1) e out (by omega) (by omega) (by omega) (by omega) (fun _ => ⟨h1, h2⟩) (fun h => by omega), hrun]
      · have hne : (uwm (rd C ((i + 1 : Nat) : Int)) == uwm e) = false := by
          rw [Bool.eq_false_iff]
          intro h
          exact h2 (uwm_inj _ _ hn64 hd64 (eq_of_beq h))
        rw [hne]
        exact hemit (fun x r hx => by rw [hd1] at hx; injection hx with hx; rw [← hx]; exact h2)
    · rw [if_neg (by omega)]
      exact hemit (fun x r hx => by rw [List.drop_of_length_le (by omega)] at hx; cases hx)
theorem refPutI_f (l : List Int) (hl : l.length ≤ 1000000) (k : Nat) (hk : 2 * l.length + 13 ≤ k) : tidelineref05_Put.f k l = some (encInts l) := by
  unfold tidelineref05_Put.f
  have := refPutI_l0 (chg 0 0 l) (by rw [chg_length]; omega) (chg_i64 l 0 0) (chg 0 0 l).length k 0 0 0 [] (by omega) (by rw [chg_length]; omega) (Nat.le_refl _) (by simp) (fun h => by omega) (fun _ => rfl)
  rw [refChg_f l hl k (by omega), Option.bind_some]
  rw [List.nil_append, List.drop_zero] at this
  exact this
theorem refLay_l0 (B : List Bool) (hl : B.length ≤ 1000000) : ∀ (d k i : Nat), i + d = B.length → d < k → tidelineref06_Bits.l0 k B (bitsN (fun i : Nat => rdOf false B (i : Int)) i) (i : Int) = some (bitsN (fun i : Nat => rdOf false B (i : Int)) B.length) := by
  intro d
  induction d with
  | zero =>
    intro k i hi hk
    obtain ⟨k, rfl⟩ : ∃ j, k = j + 1 := ⟨k - 1, by omega⟩
    obtain rfl : i = B.length := by omega
    rw [tidelineref06_Bits.l0, if_neg (by omega)]
  | succ d ih =>
    intro k i hi hk
    obtain ⟨k, rfl⟩ : ∃ j, k = j + 1 := ⟨k - 1, by omega⟩
    have hlb := bitsN_length (fun i : Nat => rdOf false B (i : Int)) i
    have hnx := bitsN_next (fun i : Nat => rdOf false B (i : Int)) i
    have hsum := bitsN_sum (fun i : Nat => rdOf false B (i : Int)) i
    have hih := ih k (i + 1) (by omega) (by omega)
    obtain ⟨L, hL⟩ : ∃ L, L = bitsN (fun i : Nat => rdOf false B (i : Int)) i := ⟨_, rfl⟩
    rw [← hL] at hlb hnx hsum ⊢
    rw [hnx] at hih
    rw [tidelineref06_Bits.l0, if_pos (by omega), tmod8, tdiv8 i (by omega), w64s i (by omega), shl_bit' i]
    by_cases h8 : i % 8 = 0
    · rw [if_pos (by omega), if_pos (by omega), Option.bind_some, if_pos (by omega)]
      rw [if_pos h8] at hih hsum
      by_cases hp : rdOf false B (i : Int) = true
      · have hs := hsum hp
        rw [if_pos hp] at hih
        rw [if_pos hp, if_pos (by omega), if_pos (by rw [List.length_append, List.length_singleton]; omega), if_pos (by omega), Int.toNat_natCast, Int.emod_eq_of_lt hs.1 (by omega)]
        exact hih
      · rw [if_neg hp] at hih
        rw [if_neg hp]
        exact hih
    · rw [if_neg (by omega), if_pos (by omega)]
      rw [if_neg h8] at hih hsum
      by_cases hp : rdOf false B (i : Int) = true
      · have hs := hsum hp
        rw [if_pos hp] at hih
        rw [if_pos hp, if_pos (by omega), if_pos (by omega), if_pos (by omega), Int.toNat_natCast, Int.emod_eq_of_lt hs.1 (by omega)]
        exact hih
      · rw [if_neg hp] at hih
        rw [if_neg hp]
        exact hih
theorem refLay_f (B : List Bool) (hl : B.length ≤ 1000000) (k : Nat) (hk : B.length < k) : tidelineref06_Bits.f k B = some (lay (fun i : Nat => rdOf false B (i : Int)) B.length) := by
  have := refLay_l0 B hl B.length k 0 (by omega) hk
  unfold tidelineref06_Bits.f
  rw [← bitsN_lay]
  exact this
theorem refPutC_l0 (kind : Int) (hk3 : isKind kind) (l : List S39) (hl : l.length ≤ 1000) (hs : ∀ x ∈ l, x.f2.size ≤ 10000) (hf : fitCol kind l = true) : ∀ (d k i : Nat), i + d = l.length → d + 2 * l.length + 20 < k →
    tidelineref06_Put.l0 k kind l ((l.take i).map fun x => x.f0 == 0) ((marksOf (l.take i)).map fun x => x.f1 == 1) (marksOf (l.take i)) ((marksOf (l.take i)).map S39.f1) (i : Int) = some (encCol kind l, 0) := by
  intro d
  induction d with
  | zero =>
    intro k i hi hk
    obtain ⟨k, rfl⟩ : ∃ j, k = j + 1 := ⟨k - 1, by omega⟩
    obtain rfl : i = l.length := by omega
    have hml := marks_le l
    have hmf := marks_fit kind l hk3 hf
    rw [tidelineref06_Put.l0, if_neg (by omega), List.take_length, refLay_f _ (by rw [List.length_map]; omega) k (by rw [List.length_map]; omega), Option.bind_some, List.length_map]
    have e1 : lay (fun i : Nat => rdOf false (l.map fun x => x.f0 == 0) (i : Int)) l.length = lay (fun i : Nat => nulV (rd_T39 l i)) l.length := lay_congr _ _ _ (fun j hj => by
      unfold rdOf
      rw [Int.toNat_natCast, List.getD_eq_getElem?_getD, List.getElem?_eq_getElem (by simpa using hj), rdT_get hj]
      simp [nulV])
    have hll := lay_length (fun i : Nat => nulV (rd_T39 l i)) l.length
    rw [e1]
    unfold encCol encMarks
    by_cases h1 : kind = 1
    · have e2 : lay (fun i : Nat => rdOf false ((marksOf l).map fun x => x.f1 == 1) (i : Int)) (marksOf l).length = lay (fun i : Nat => (rd_T39 (marksOf l) i).f1 == 1) (marksOf l).length := lay_congr _ _ _ (fun j hj => by
        unfold rdOf
        rw [Int.toNat_natCast, List.getD_eq_getElem?_getD, List.getElem?_eq_getElem (by simpa using hj), rdT_get hj]
        simp)
      have hl2 := lay_length (fun i : Nat => (rd_T39 (marksOf l) i).f1 == 1) (marksOf l).length
      rw [if_pos h1, refLay_f _ (by rw [List.length_map]; omega) k (by rw [List.length_map]; omega), Option.bind_some, List.length_map, e2, if_pos (by omega), if_pos h1]
    · rw [if_neg h1, if_neg h1]
      by_cases h2 : kind = 2
      · have hl2 := encInts_le6 ((marksOf l).map S39.f1)
        rw [List.length_map] at hl2
        rw [if_pos h2, if_pos h2, refPutI_f _ (by rw [List.length_map]; omega) k (by rw [List.length_map]; omega), Option.bind_some, if_pos (by omega)]
      · have h3 : kind = 3 := by unfold isKind at hk3; omega
        have hl2 := encTexts_le6 ((marksOf l).map S39.f2) 1000 10000 (by rw [List.length_map]; omega) (fun x hx => by
          obtain ⟨y, hy, rfl⟩ := List.mem_map.mp hx
          exact hs y (List.mem_filter.mp hy).1)
        have ht : tidelineref06_texts.f (marksOf l) = some (encTexts ((marksOf l).map S39.f2)) := by
          unfold tidelineref06_texts.f
          rw [if_pos ⟨by omega, by rw [List.all_eq_true]; intro x hx; exact decide_eq_true (by rw [(hmf x hx).2.2, h3]), by rw [List.all_eq_true]; intro x hx; exact decide_eq_true (by have := hs x (hmf x hx).1; omega)⟩]
        rw [if_neg h2, if_neg h2, ht, Option.bind_some, if_pos (by omega)]
  | succ d ih =>
    intro k i hi hk
    obtain ⟨k, rfl⟩ : ∃ j, k = j + 1 := ⟨k - 1, by omega⟩
    have hlt : i < l.length := by omega
    have hih := ih k (i + 1) (by omega) (by omega)
    have hmt := marks_le (l.take i)
    have hml := List.length_take_le i l
    have et : l.take (i + 1) = l.take i ++ [rd_T39 l (i : Int)] := by rw [List.take_succ_eq_append_getElem hlt, rdT_get hlt]
    have em : marksOf (l.take (i + 1)) = marksOf (l.take i) ++ (if (rd_T39 l (i : Int)).f0 = 0 then [] else [rd_T39 l (i : Int)]) := by
      rw [et]
      unfold marksOf
      rw [List.filter_append]
      congr 1
      by_cases h : (rd_T39 l (i : Int)).f0 = 0
      · rw [if_pos h]; simp [nulV, h]
      · rw [if_neg h]; simp [nulV, h]
    rw [em, et] at hih
    simp only [List.map_append, List.map_cons, List.map_nil] at hih
    rw [tidelineref06_Put.l0, if_pos (by omega), if_pos (by omega), if_pos (by rw [List.length_map, List.length_take]; omega), Option.bind_some, w64s i (by omega)]
    by_cases h : (rd_T39 l (i : Int)).f0 = 0
    · rw [if_pos h] at hih
      simp only [List.map_nil, List.append_nil] at hih
      rw [if_pos h]
      exact hih
    · rw [if_neg h] at hih
      rw [if_neg h, if_pos (by omega), if_pos (by rw [List.length_map]; omega), if_pos (by rw [List.length_map]; omega)]
      exact hih
theorem refPutCol_f (kind : Int) (l : List S39) (hl : l.length ≤ 1000) (hs : ∀ x ∈ l, x.f2.size ≤ 10000) (h0 : ∀ x ∈ l, 0 ≤ x.f0) (k : Nat) (hk : 3 * l.length + 30 < k) : tidelineref06_Put.f k kind l = some (putCol kind l) := by
  unfold tidelineref06_Put.f putCol
  rw [refCol_f kind l (by omega) h0 k (by omega), Option.bind_some]
  by_cases h : kindB kind = true ∧ l.length ≤ 65536 ∧ fitCol kind l = true
  · rw [decide_eq_true h, if_pos rfl, if_pos h]
    exact refPutC_l0 kind ((kindB_iff kind).mp h.1) l hl hs h.2.2 l.length k 0 (by omega) (by omega)
  · rw [decide_eq_false h, if_neg (by decide), if_neg h]
end Go.Proofs.Ytlmcefhpnfoahaa.P
end

section
namespace Go.Proofs.Ytlmcefhpnfoahaa.P
open Go.RowKit Go.Proofs.YtlmcefhpnfoahaaW.PrintWords Go.Proofs.YtlmcefhpnfoahaaW.PrintLast Go.Proofs.YtlmcefhpnfoahaaW.PrintMore
set_option linter.unusedVariables false
set_option linter.unusedSimpArgs false

theorem colPuts_f (kind : Int) (l : List S39) (hw : ∀ x ∈ l, okVal x) : tidelinelaw06_ColumnPuts.f 5000 kind l = some true := by
  unfold tidelinelaw06_ColumnPuts.f
  obtain ⟨r, hr, hp⟩ := long6_k l 5000 (by decide)
  rw [hr, Option.bind_some]
  cases r with
  | true => rw [if_pos rfl]
  | false =>
    obtain ⟨h1, h2⟩ := hp rfl
    have hn := okNum_of l hw
    have h0 : ∀ x ∈ l, 0 ≤ x.f0 := fun x hx => (hw x hx).1.1
    rw [if_neg (by decide), Option.bind_some, if_pos (by simp only [List.length_nil]; omega), Option.bind_some, List.nil_append, colPut_f kind l (by omega) hn (fun x hx => by have := h2 x hx; omega), Option.bind_some, refPutCol_f kind l (by omega) (fun x hx => by have := h2 x hx; omega) h0 5000 (by omega), Option.bind_some, if_pos rfl, if_pos rfl,
      same_self_k l (by unfold maxLen; omega) _ (by omega), Option.bind_some, if_pos rfl]
    rfl
theorem walk_ColumnPuts (a0 : Int) (A1 : Option Addr) (c1 : Nat) (l1 : List S39) (w : World) (hw0 : (Lit.int .u8 a0).wf = true)
    (hr1 : Kd.C k39 w A1 l1.length l1) (hc1 : l1.length ≤ c1) (hm1 : l1.length ≤ maxLen) (hw1 : ∀ x ∈ l1, okVal x) :
    Calls Try.prog 17 #[.int .u8 a0, .slice A1 l1.length c1] w fun e w' => e = .returned (.bool true) ∧ Below w.heap.size w w' :=
  tidelinelaw06_ColumnPuts.calls _ a0 A1 c1 l1 true w hr1 hc1 (colPuts_f a0 l1 hw1)
end Go.Proofs.Ytlmcefhpnfoahaa.P
end

section
/- The row of the law ColumnPuts: at every input it answers true, and each argument reads behind the call as it did. No condition. -/
namespace Go.Proofs.Ytlmcefhpnfoahaa.columnPuts
open Go.ChangeShapes Go.WideShapes Go.ChangeAt Go.RowKit Go.Proofs.Ytlmcefhpnfoahaa.P
open Go.ChangeMaps (open_string shut_string)
set_option linter.unusedVariables false
theorem own : ownKnob Try.prog.godebug = none := by kernel_rfl
theorem laidOut : laidOutB Try.prog = true := by kernel_rfl
set_option maxRecDepth 100000 in
theorem lifted (os : Os) (started : os.Started) (H : Type) (enc : TypeId × Value → H) :
    ReturnsInHanded {} Try.checked os 17 .any (Rows.columnPutsSpec.pre6 enc Try.prog Try.f17 Rows.columnPutsRow.domain false) (Rows.columnPutsSpec.post enc Try.prog Try.f17 false true false false) := by
  refine returnsInHanded_of_change_sized (C := Try.checked) own started (by kernel_rfl) Try.func17
    (ChangeSpec.witness6 (enc := enc) (C := Try.checked) false ⟨#[], #[.int .u8 0, .slice none 0 0], []⟩ 8 (by kernel_rfl) (by kernel_rfl) (by kernel_rfl) (by kernel_rfl)) ?_
  intro W base args ds gs before hval0 hW hcnd hsz0 _
  have hval : ∀ (j : Nat) t v, Try.f17.params[j]? = some t → args[j]? = some v → Value.okWide Try.prog W .any base t v := hval0
  have hW' := hW
  obtain ⟨p, q, hA0, hV, rfl, hfz, hnd⟩ := hW
  have hA : DataW.TrodAll enc Try.prog W 0 (fun _ => true) true Try.f17.params.toList args.toList ds p := hA0
  rw [Try.params17] at hA hval
  obtain ⟨v0, vs0, d0, ds0, p0, q0, hargs, rfl, rfl, h0, r0⟩ := trodAll_cons hA
  obtain ⟨v1, vs1, d1, ds1, p1, q1, rfl, rfl, rfl, h1, r1⟩ := trodAll_cons r0
  obtain ⟨rfl, rfl, rfl⟩ := trodAll_nil r1
  obtain rfl : args = #[v0, v1] := by cases args; simp_all
  obtain ⟨rfl, rfl⟩ := trodVars_none hV
  obtain ⟨a0, rfl, rfl, rfl, w0⟩ := open_int Try.underlying5 (hval 0 5 v0 rfl rfl) h0
  obtain ⟨a1, len1, cap1, rfl⟩ := okWide_slice Try.underlying23 (hval 1 23 v1 rfl rfl)
  have k1 := h1
  have lt1 : ∀ x ∈ p1, x.block < W.heap.size := by obtain ⟨m, hm⟩ := k1; exact DataW.trod_lt m _ _ _ hm
  obtain ⟨l1, rfl, y1, z1, m1, w1⟩ := open_arg z39 Try.underlying23 (by kernel_rfl) tells_val h1
  clear hA0 hval0 hsz0
  refine (walk_ColumnPuts a0 a1 cap1 l1 W w0 z1 y1 m1 w1).mono fun e W' ⟨he, bel⟩ => ?_
  subst he
  exact ⟨_, rfl, _, _, _, [], _, [], hW', trodAll_mk1 (shut_bool Try.underlying4 _), (trodAll_cons_mk (shut_int Try.underlying5 w0) (trodAll_cons_mk (Below.trod laidOut (by kernel_rfl) (of_decide_eq_true (by kernel_rfl)) k1 bel lt1) trodAll_mk0)), rfl, bel.frame _, fun h => by cases h⟩
theorem k_wf : Rows.columnPutsRow.wf (OpenSpec.ofChange Rows.columnPutsSpec) = true := by kernel_rfl
theorem k_params : Try.f17.params.all (Try.prog.readableRec ·) = true := by kernel_rfl
theorem k_tie : namedTie Try.prog Rows.columnPutsRow.named Rows.columnPutsSpec.vars = true := by kernel_rfl
theorem k_inPlace : (Rows.columnPutsRow.inPlace == Try.prog.inPlace 17) = true := by kernel_rfl
theorem k_unfollowed : (Rows.columnPutsRow.unfollowed == Try.prog.unfollowed 17) = true := by kernel_rfl
theorem k_recurses : (Rows.columnPutsRow.recurses == Try.prog.recurses 17) = true := by kernel_rfl
theorem k_named : (Rows.columnPutsRow.named == Try.prog.varsNamed 17) = true := by kernel_rfl
theorem k_maps : (Rows.columnPutsRow.maps == (Try.f17.params.toList ++ Rows.columnPutsSpec.plain.varTypes Try.prog).any (Try.prog.mapsRec ·)) = true := by kernel_rfl
theorem k_ifaces : (Rows.columnPutsRow.ifaces == (Try.f17.params.toList ++ Rows.columnPutsSpec.plain.varTypes Try.prog).any (Try.prog.ifacesRec ·)) = true := by kernel_rfl
theorem k_mapsOut : (Rows.columnPutsRow.mapsOut == Try.prog.mapsAmong Try.f17.resultTypes.toList) = true := by kernel_rfl
theorem k_loops : (Rows.columnPutsRow.loops == (Try.f17.params.toList ++ Rows.columnPutsSpec.plain.varTypes Try.prog).any (Try.prog.loopsFrom ·)) = true := by kernel_rfl
theorem k_wideKeys : (Rows.columnPutsRow.wideKeys == ((Try.f17.params.toList ++ Rows.columnPutsSpec.plain.varTypes Try.prog) ++ Try.f17.resultTypes.toList).any (Try.prog.wideKeysFrom ·)) = true := by kernel_rfl
theorem k_results : Try.f17.resultTypes.all (fun t => Try.prog.readableRec t && decide (t < Try.prog.types.size)) = true := by kernel_rfl
theorem k_ifacesOut : (Rows.columnPutsRow.ifacesOut == Try.f17.resultTypes.toList.any (Try.prog.ifacesRec ·)) = true := by kernel_rfl
theorem k_loopsOut : (Rows.columnPutsRow.loopsOut == Try.f17.resultTypes.toList.any (Try.prog.loopsFrom ·)) = true := by kernel_rfl
theorem k_veiled : (Rows.columnPutsRow.veiled == ((Try.f17.params.toList ++ Rows.columnPutsSpec.plain.varTypes Try.prog) ++ Try.f17.resultTypes.toList).any (Try.prog.veiledRec ·)) = true := by kernel_rfl
theorem k_fits : Rows.columnPutsRow.veiledFits Try.prog Try.f17.params.toList ((Try.f17.params.toList ++ Rows.columnPutsSpec.plain.varTypes Try.prog) ++ Try.f17.resultTypes.toList) = true := by kernel_rfl
theorem k_kinds : (Rows.columnPutsRow.kinds == (if Rows.columnPutsRow.domain.isEmpty then [] else Try.f17.params.toList.map fun t => match Try.prog.underlying t with | some (.int k) => some k | _ => none)) = true := by kernel_rfl
theorem k_pins : (Rows.columnPutsRow.pinned == Rows.columnPutsRow.pinnedBy) = true := by kernel_rfl
theorem k_stops : (Rows.columnPutsRow.stops == []) = true := by kernel_rfl
theorem k_knobs : (Rows.columnPutsRow.knobs == []) = true := by kernel_rfl
theorem k_vars : Rows.columnPutsSpec.vars.all (Try.prog.varReadable ·) = true := by kernel_rfl
theorem k_plain : Rows.columnPutsRow.plainKeys = true := by kernel_rfl
theorem k_short : Rows.columnPutsRow.shortTexts.isNone = true := by kernel_rfl
theorem k_lift : Rows.columnPutsRow.lifted = false := by kernel_rfl
theorem k_make : Rows.columnPutsRow.make = .cut := by kernel_rfl
theorem k_func : Try.prog.funcNamed Rows.columnPutsRow.func = some 17 := by kernel_rfl
theorem k_plain2 : (Rows.columnPutsRow.plainKeys == Try.prog.plainKeys) = (Rows.columnPutsRow.plainKeys == true) := by rw [fact_plainKeys]
theorem k_lift2 : (Rows.columnPutsRow.lifted == Try.prog.liftsFinal) = (Rows.columnPutsRow.lifted == false) := by rw [fact_liftsFinal]
theorem k_make2 : (Try.prog.make == some Rows.columnPutsRow.make) = true := by rw [fact_make, k_make]; rfl
set_option maxRecDepth 100000 in
theorem closed : joinedFacts Try.prog 17 Try.f17 Rows.columnPutsSpec Rows.columnPutsRow = true :=
  joined_of Try.prog 17 Try.f17 Rows.columnPutsSpec Rows.columnPutsRow k_wf fact_laidOut fact_mapsRowed k_params k_tie k_stops fact_stops k_knobs fact_stopKnobs k_inPlace k_unfollowed k_recurses k_named k_maps k_ifaces k_mapsOut k_loops k_wideKeys k_vars k_results k_ifacesOut k_loopsOut k_plain2 k_plain k_short fact_stopsHeard fact_mayEnter k_lift2 k_lift k_make2 k_kinds k_pins k_veiled k_fits
theorem over : Rows.columnPutsRow.holds Try.pinned (OpenSpec.ofChange Rows.columnPutsSpec) :=
  OpenClaim.holds_of_wide 17 Try.f17 rfl rfl rfl rfl rfl rfl rfl ⟨rfl, rfl, rfl, rfl, rfl⟩ rfl rfl rfl rfl rfl k_func Try.func17 closed
    (of_decide_eq_true (by kernel_rfl)) (by unfold Func.isWrapper; first | (rw [if_pos (by decide +kernel)]; kernel_rfl) | (rw [if_neg (by decide +kernel)]; exact ⟨rfl, rfl⟩))
    (fun os started H enc _ => lifted os started H enc)
theorem proved : Rows.ColumnPutsSaid := over
#print axioms proved
end Go.Proofs.Ytlmcefhpnfoahaa.columnPuts
namespace Go.Proofs.Ytlmcefhpnfoahaa
/-- The row, under a short name, for the claim. -/
theorem columnPuts_holds : Rows.ColumnPutsSaid := columnPuts.proved
end Go.Proofs.Ytlmcefhpnfoahaa
end
