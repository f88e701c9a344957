/- Part 3 of what the laws of this chapter stand on: texts of this session, gathered. Condition: none beside those that each theorem states. -/
import Derived.JoinedOf
import Derived.KernelRfl
import Derived.Test.YtlmcefhpnfoahaaRows
import Derived.Test.YtlmcefhpnfoahaaBROW2
section
namespace Go.Proofs.Ytlmcefhpnfoahaa.P
open Go.RowKit Go.Proofs.YtlmcefhpnfoahaaW.PrintWords Go.Proofs.YtlmcefhpnfoahaaW.PrintLast Go.Proofs.YtlmcefhpnfoahaaW.PrintMore
attribute [local go_sem] max2_int min2_int max_two min_two max_three min_three max_four min_four   -- for this text's walks alone
set_option linter.unusedVariables false
set_option linter.unusedSimpArgs false

/-! ### tidelineref04_Get: function 50 -/
mutual
def tidelineref04_Get.l0 : Nat → List Int → List Int → Int → Int → Option ((List (S39)) × Int)
  | 0, _, _, _, _ => none
  | k + 1, x0, x1, x6, x7 => if x7 < (wrap64 (8 * x6)) then (if 0 ≤ (wrap64 (Int.tdiv x7 8)) then (if (wrap64 (Int.tdiv x7 8)) < (x1.length : Int) then (if 0 ≤ (Int.tmod x7 8) then (if (Int.tmod (shr .u8 (rd x1 (wrap64 (Int.tdiv x7 8))) (Int.tmod x7 8)) 2) = 1 then (some (([] : List (S39)), 21)) else (tidelineref04_Get.l0 k x0 x1 x6 (wrap64 (x7 + 1)))) else (none)) else (none)) else (none)) else (tidelineref04_Get.l1 k x0 x1 ([] : List (S39)) x6 0)
def tidelineref04_Get.l1 : Nat → List Int → List Int → List (S39) → Int → Int → Option ((List (S39)) × Int)
  | 0, _, _, _, _, _ => none
  | k + 1, x0, x1, x8, x9, x10 => if x10 < (x0.length : Int) then (if 0 ≤ (wrap64 (Int.tdiv x10 8)) then (if (wrap64 (Int.tdiv x10 8)) < (x1.length : Int) then (if 0 ≤ (Int.tmod x10 8) then (if (Int.tmod (shr .u8 (rd x1 (wrap64 (Int.tdiv x10 8))) (Int.tmod x10 8)) 2) = 1 then (if x8.length < 4398046511104 then (tidelineref04_Get.l1 k x0 x1 (x8 ++ [(⟨0, 0, (⟨#[]⟩ : ByteArray)⟩ : S39)]) x9 (wrap64 (x10 + 1))) else (none)) else (if 0 ≤ x10 then (if 0 ≤ x9 then (if x9 ≤ (x1.length : Int) then ((tidelineref04_Value.f k (rd x0 x10) (x1.drop (x9 : Int).toNat)).bind fun bt634 => (if bt634.2.2.2.2 = 0 then (if x8.length < 4398046511104 then (tidelineref04_Get.l1 k x0 x1 (x8 ++ [(⟨bt634.1, bt634.2.1, bt634.2.2.1⟩ : S39)]) (wrap64 (x9 + bt634.2.2.2.1)) (wrap64 (x10 + 1))) else (none)) else (some (([] : List (S39)), bt634.2.2.2.2)))) else (none)) else (none)) else (none))) else (none)) else (none)) else (none)) else (if x9 = (x1.length : Int) then (some (x8, 0)) else (some (([] : List (S39)), 21)))
end
def tidelineref04_Get.f (k : Nat) (l0 : List Int) (l1 : List Int) : Option ((List (S39)) × Int) := (tidelineref04_Types.f k l0).bind fun t626 => (if t626 = true then (if (l1.length : Int) < (wrap64 (Int.tdiv (wrap64 ((l0.length : Int) + 7)) 8)) then (some (([] : List (S39)), 20)) else (tidelineref04_Get.l0 k l0 l1 (wrap64 (Int.tdiv (wrap64 ((l0.length : Int) + 7)) 8)) (l0.length : Int))) else (some (([] : List (S39)), 1)))
theorem tidelineref04_Get.mono_l : ∀ k, (∀ y0 y1 y2 y3, LeO (tidelineref04_Get.l0 k y0 y1 y2 y3) (tidelineref04_Get.l0 (k + 1) y0 y1 y2 y3)) ∧ (∀ y0 y1 y2 y3 y4, LeO (tidelineref04_Get.l1 k y0 y1 y2 y3 y4) (tidelineref04_Get.l1 (k + 1) y0 y1 y2 y3 y4))
  | 0 => ⟨fun _ _ _ _ r h => by simp [tidelineref04_Get.l0] at h, fun _ _ _ _ _ r h => by simp [tidelineref04_Get.l1] at h⟩
  | k + 1 => by
    obtain ⟨ih0, ih1⟩ := tidelineref04_Get.mono_l k
    refine ⟨?_, ?_⟩
    · intro y0 y1 y2 y3
      unfold tidelineref04_Get.l0
      repeat' first
      | (with_reducible exact ih0 _ _ _ _)
      | (with_reducible exact ih1 _ _ _ _ _)
      | (with_reducible exact tidelineref04_Types.mono _ _)
      | (with_reducible exact tidelineref04_Value.mono _ _ _)
      | (with_reducible exact LeO.refl _)
      | (with_reducible exact LeO.none _)
      | (with_reducible refine LeO.ite ?_ ?_)
      | (with_reducible refine LeO.bind ?_ (fun _ => ?_))
      | exact ih0 _ _ _ _
      | exact ih1 _ _ _ _ _
      | exact tidelineref04_Types.mono _ _
      | exact tidelineref04_Value.mono _ _ _
      | exact LeO.none _
      | refine LeO.ite ?_ ?_
      | refine LeO.bind ?_ (fun _ => ?_)
    · intro y0 y1 y2 y3 y4
      unfold tidelineref04_Get.l1
      repeat' first
      | (with_reducible exact ih0 _ _ _ _)
      | (with_reducible exact ih1 _ _ _ _ _)
      | (with_reducible exact tidelineref04_Types.mono _ _)
      | (with_reducible exact tidelineref04_Value.mono _ _ _)
      | (with_reducible exact LeO.refl _)
      | (with_reducible exact LeO.none _)
      | (with_reducible refine LeO.ite ?_ ?_)
      | (with_reducible refine LeO.bind ?_ (fun _ => ?_))
      | exact ih0 _ _ _ _
      | exact ih1 _ _ _ _ _
      | exact tidelineref04_Types.mono _ _
      | exact tidelineref04_Value.mono _ _ _
      | exact LeO.none _
      | refine LeO.ite ?_ ?_
      | refine LeO.bind ?_ (fun _ => ?_)
theorem tidelineref04_Get.mono : ∀ a0 a1 k, LeO (tidelineref04_Get.f k a0 a1) (tidelineref04_Get.f (k + 1) a0 a1) := by
  intro a0 a1 k
  obtain ⟨ih0, ih1⟩ := tidelineref04_Get.mono_l k
  unfold tidelineref04_Get.f
  repeat' first
      | (with_reducible exact ih0 _ _ _ _)
      | (with_reducible exact ih1 _ _ _ _ _)
      | (with_reducible exact tidelineref04_Types.mono _ _)
      | (with_reducible exact tidelineref04_Value.mono _ _ _)
      | (with_reducible exact LeO.refl _)
      | (with_reducible exact LeO.none _)
      | (with_reducible refine LeO.ite ?_ ?_)
      | (with_reducible refine LeO.bind ?_ (fun _ => ?_))
      | exact ih0 _ _ _ _
      | exact ih1 _ _ _ _ _
      | exact tidelineref04_Types.mono _ _
      | exact tidelineref04_Value.mono _ _ _
      | exact LeO.none _
      | refine LeO.ite ?_ ?_
      | refine LeO.bind ?_ (fun _ => ?_)
def tidelineref04_Get.T18 : Bool × List (List Nat × List Nat) := (true, [([], []), ([], []), ([0, 1], [0, 1]), ([2], [2]), ([], []), ([], []), ([4, 5], [4, 5]), ([3, 6], [3, 6]), ([7], [7]), ([8], [8]), ([8], [8]), ([8], [8]), ([], []), ([12, 9, 7, 0, 1, 2, 3, 4, 5, 6, 7, 8, 9, 12], [9, 12]), ([10, 13, 0, 1, 2, 3, 4, 5, 6, 7, 8, 9, 10, 12, 13], [10]), ([11, 14, 0, 1, 2, 3, 4, 5, 6, 7, 8, 9, 10, 11, 12, 13, 14], [11])])
def tidelineref04_Get.B18 : List Nat := [0, 0, 3, 7, 0, 0, 48, 127, 255, 511, 511, 511, 0, 5119, 14335, 32767]
theorem tidelineref04_Get.tab18 : rtab .any (opsOf Try.f50 18) = tidelineref04_Get.T18 := by kernel_rfl
theorem tidelineref04_Get.bits18 : waitsOk tidelineref04_Get.T18.2 tidelineref04_Get.B18 = true := by kernel_rfl
set_option maxHeartbeats 8000000 in
set_option maxRecDepth 100000 in
theorem tidelineref04_Get.calls (k : Nat) (A0 : Option Addr) (c0 : Nat) (l0 : List Int) (A1 : Option Addr) (c1 : Nat) (l1 : List Int) (r1 : List (S39)) (r2 : Int) (w : World) (hr0 : Kd.C (Kd.int .u8) w A0 l0.length l0) (hc0 : l0.length ≤ c0) (hr1 : Kd.C (Kd.int .u8) w A1 l1.length l1) (hc1 : l1.length ≤ c1) (h : tidelineref04_Get.f k l0 l1 = some (r1, r2)) :
    Calls Try.prog 50 #[.slice A0 l0.length c0, .slice A1 l1.length c1] w fun e w' => ∃ v0_ : Value, e = .returned (.tuple #[v0_, .int .i64 r2]) ∧ Kd.R k39 39 w' w.heap.size (fun _ => True) v0_ r1 ∧ Below w.heap.size w w' := by
  have hu39 := Try.underlying39
  have HR0 := Aside0.mk hr0
  have HC0 := Aside0.mk hc0
  clear hr0 hc0
  have HR1 := Aside0.mk hr1
  have HC1 := Aside0.mk hc1
  clear hr1 hc1
  have HB := Aside0.mk (Below.refl w.heap.size w)
  have H : ((tidelineref04_Types.f k l0).bind fun t626 => (if t626 = true then (if (l1.length : Int) < (wrap64 (Int.tdiv (wrap64 ((l0.length : Int) + 7)) 8)) then (some (([] : List (S39)), 20)) else (tidelineref04_Get.l0 k l0 l1 (wrap64 (Int.tdiv (wrap64 ((l0.length : Int) + 7)) 8)) (l0.length : Int))) else (some (([] : List (S39)), 1)))) = some (r1, r2) := h
  clear h
  replace H := Option.bind_eq_some_iff.mp H
  obtain ⟨t626, A30, H⟩ := H
  replace H : (if t626 = true then (if (l1.length : Int) < (wrap64 (Int.tdiv (wrap64 ((l0.length : Int) + 7)) 8)) then (some (([] : List (S39)), 20)) else (tidelineref04_Get.l0 k l0 l1 (wrap64 (Int.tdiv (wrap64 ((l0.length : Int) + 7)) 8)) (l0.length : Int))) else (some (([] : List (S39)), 1))) = some (r1, r2) := H
  have A3 := Aside0.mk A30
  clear A30
  by_cases c4 : t626 = true
  · subst c4
    have H1 : (if (l1.length : Int) < (wrap64 (Int.tdiv (wrap64 ((l0.length : Int) + 7)) 8)) then (some (([] : List (S39)), 20)) else (tidelineref04_Get.l0 k l0 l1 (wrap64 (Int.tdiv (wrap64 ((l0.length : Int) + 7)) 8)) (l0.length : Int))) = some (r1, r2) := by rw [if_pos rfl] at H; exact H
    clear H
    have H := H1
    clear H1
    by_cases c5 : (l1.length : Int) < (wrap64 (Int.tdiv (wrap64 ((l0.length : Int) + 7)) 8))
    · rw [if_pos c5] at H
      have c5b0 : decide ((l1.length : Int) < (wrap64 (Int.tdiv (wrap64 ((l0.length : Int) + 7)) 8))) = true := decide_eq_true c5
      clear c5
      simp only [Option.some.injEq, Prod.mk.injEq] at H
      obtain ⟨rfl, rfl⟩ := H
      go_enter Try.func50, Try.ntmps50
      go_wp2_with (first | ((with_reducible refine gate_callee (f := 52) rfl ?_); refine goesL_ (some 15) rfl rfl Try.func52 (by kernel_rfl) rfl #[.slice A0 l0.length c0] rfl (by (try simp only [List.map_toArray, List.map_cons, List.map_nil]); first | done | rfl | (simp only [List.length_drop, List.length_take]; rfl)) ?_; (with_reducible refine (tidelineref04_Types.calls k _ _ l0 true _ ?side1 ?side2 A3.out).mono ?_); (case side1 => repeat (first | exact HR0.out | (with_reducible refine Kd.C_alloc ?_ _) | (with_reducible refine Kd.C_drewN ?_ _) | (with_reducible refine Kd.C_drew ?_))); (case side2 => exact HC0.out); rintro e w' ⟨rfl, ⟨nd, rfl⟩⟩; refine ⟨_, rfl, ?_⟩))
      go_ret2
      exact ⟨_, by first | rfl | (simp [errW_none, errW_some] <;> rfl) | (simp [*, errW_none, errW_some] <;> rfl), by first | exact Kd.R_nil _ _ _ _ _ | exact Kd.N_nil _ _ _ _ _ | exact Kd.V_nil _ _ _ _ _ | exact Kd.Q_nil _ _ _ _ _ | exact Kd.S_nil _ _ _ _ _, by repeat (first | (with_reducible first | exact HB.out | apply below_alloc | apply pw_below_drewN | apply below_drew1) | exact HB.out)⟩
    · rw [if_neg c5] at H
      have c5b0 : decide ((l1.length : Int) < (wrap64 (Int.tdiv (wrap64 ((l0.length : Int) + 7)) 8))) = false := decide_eq_false c5
      clear c5
      have H' := Aside0.mk H
      clear H
      go_enter Try.func50, Try.ntmps50
      go_wp2_with (first | ((with_reducible refine gate_callee (f := 52) rfl ?_); refine goesL_ (some 15) rfl rfl Try.func52 (by kernel_rfl) rfl #[.slice A0 l0.length c0] rfl (by (try simp only [List.map_toArray, List.map_cons, List.map_nil]); first | done | rfl | (simp only [List.length_drop, List.length_take]; rfl)) ?_; (with_reducible refine (tidelineref04_Types.calls k _ _ l0 true _ ?side1 ?side2 A3.out).mono ?_); (case side1 => repeat (first | exact HR0.out | (with_reducible refine Kd.C_alloc ?_ _) | (with_reducible refine Kd.C_drewN ?_ _) | (with_reducible refine Kd.C_drew ?_))); (case side2 => exact HC0.out); rintro e w' ⟨rfl, ⟨nd, rfl⟩⟩; refine ⟨_, rfl, ?_⟩))
      go_loopg [7] k (fun kq v7 w' => ∃ (x7_1 : Int), v7 = .int .i64 x7_1 ∧ Aside0 (tidelineref04_Get.l0 kq l0 l1 (wrap64 (Int.tdiv (wrap64 ((l0.length : Int) + 7)) 8)) x7_1 = some (r1, r2)) ∧ Aside0 (kq ≤ k) ∧ Aside0 (Below w.heap.size w w'))
      case atStart => exact ⟨((l0.length : Int)), (by first | rfl | (simp; done) | (simp [*]; done)), H', ⟨Nat.le_refl _⟩, ⟨by repeat (first | (with_reducible first | exact HB.out | apply below_alloc | apply pw_below_drewN | apply below_drew1) | exact HB.out)⟩⟩
      case round =>
        clear H'
        try clear c1
        try clear p2
        try clear c4
        try clear c5
        try clear c5b0
        obtain ⟨x7_1, rfl, HA, HK1, HB⟩ := hrel
        cases gk with
        | zero => exact absurd HA.out (by simp [tidelineref04_Get.l0])
        | succ k1 =>
          have H := HA.out
          clear HA
          simp only [tidelineref04_Get.l0] at H
          by_cases c6 : x7_1 < (wrap64 (8 * (wrap64 (Int.tdiv (wrap64 ((l0.length : Int) + 7)) 8))))
          · rw [if_pos c6] at H
            have c6b0 : decide (x7_1 < (wrap64 (8 * (wrap64 (Int.tdiv (wrap64 ((l0.length : Int) + 7)) 8))))) = true := decide_eq_true c6
            clear c6
            obtain ⟨ji7, hji7⟩ : ∃ j_ : Int, (wrap64 (Int.tdiv x7_1 8)) = j_ := ⟨_, rfl⟩
            replace H : (if 0 ≤ (ji7) then (if (ji7) < (l1.length : Int) then (if 0 ≤ (Int.tmod x7_1 8) then (if (Int.tmod (shr .u8 (rd l1 (ji7)) (Int.tmod x7_1 8)) 2) = 1 then (some (([] : List (S39)), 21)) else (tidelineref04_Get.l0 k1 l0 l1 (wrap64 (Int.tdiv (wrap64 ((l0.length : Int) + 7)) 8)) (wrap64 (x7_1 + 1)))) else (none)) else (none)) else (none)) = some (r1, r2) := by first | (rw [hji7] at H; exact H) | (simp only [hji7] at H ⊢; exact H)
            have hji7w : (IntKind.i64.wrap (Int.tdiv x7_1 8)) = ji7 := (i64_w _).trans hji7
            by_cases c8 : 0 ≤ (ji7)
            · rw [if_pos c8] at H
              have c8b0 : decide (0 ≤ (ji7)) = true := decide_eq_true c8
              clear c8
              by_cases c9 : (ji7) < (l1.length : Int)
              · rw [if_pos c9] at H
                have c9b0 : decide ((ji7) < (l1.length : Int)) = true := decide_eq_true c9
                clear c9
                obtain ⟨ji10, hji10⟩ : ∃ j_ : Int, (Int.tmod x7_1 8) = j_ := ⟨_, rfl⟩
                replace H : (if 0 ≤ (ji10) then (if (Int.tmod (shr .u8 (rd l1 (ji7)) (ji10)) 2) = 1 then (some (([] : List (S39)), 21)) else (tidelineref04_Get.l0 k1 l0 l1 (wrap64 (Int.tdiv (wrap64 ((l0.length : Int) + 7)) 8)) (wrap64 (x7_1 + 1)))) else (none)) = some (r1, r2) := by first | (rw [hji10] at H; exact H) | (simp only [hji10] at H ⊢; exact H)
                by_cases c11 : 0 ≤ (ji10)
                · rw [if_pos c11] at H
                  have c11b0 := eq_true c11
                  have c11b1 : decide (0 ≤ (ji10)) = true := decide_eq_true c11
                  clear c11
                  obtain ⟨ji12, hji12⟩ : ∃ j_ : Int, (shr .u8 (rd l1 (ji7)) (ji10)) = j_ := ⟨_, rfl⟩
                  replace H : (if (Int.tmod (ji12) 2) = 1 then (some (([] : List (S39)), 21)) else (tidelineref04_Get.l0 k1 l0 l1 (wrap64 (Int.tdiv (wrap64 ((l0.length : Int) + 7)) 8)) (wrap64 (x7_1 + 1)))) = some (r1, r2) := by first | (rw [hji12] at H; exact H) | (simp only [hji12] at H ⊢; exact H)
                  have hji12_ : ((rd l1 (ji7)) / 2 ^ min (ji10).toNat 8) = ji12 := hji12
                  have hji12z : (ji10) ≤ 8 → ((rd l1 (ji7)) / 2 ^ (ji10).toNat) = ji12 := shr_small hji12
                  by_cases c13 : (Int.tmod (ji12) 2) = 1
                  · rw [if_pos c13] at H
                    have c13b0 : ((Int.tmod (ji12) 2) == 1) = true := beq_iff_eq.mpr c13
                    have c13b1 : ((Int.tmod (ji12) 2) != 1) = false := bne_eq_false_iff_eq.mpr c13
                    clear c13
                    simp only [Option.some.injEq, Prod.mk.injEq] at H
                    obtain ⟨rfl, rfl⟩ := H
                    have p627 : 0 ≤ ((ji7) : Int) := of_decide_eq_true (by first | (with_reducible assumption) | assumption)
                    have q627 : (ji7) < (l1.length : Int) := of_decide_eq_true (by first | (with_reducible assumption) | assumption)
                    obtain ⟨ad627, e627, hx627_0⟩ := Kd.at_int HR1.out (ji7) p627 q627
                    cases e627
                    replace hx627_0 := (HB.out.cell (World.block_lt_of_cell? w _ hx627_0)).trans hx627_0
                    replace p627 := eq_true p627
                    replace q627 := eq_true q627
                    go_wp2
                    go_ret2
                    exact ⟨_, by first | rfl | (simp [errW_none, errW_some] <;> rfl) | (simp only [← hji7, ← hji10, ← hji12]; first | rfl | (simp [errW_none, errW_some] <;> rfl)) | (simp [*, errW_none, errW_some] <;> rfl), by first | exact Kd.R_nil _ _ _ _ _ | exact Kd.N_nil _ _ _ _ _ | exact Kd.V_nil _ _ _ _ _ | exact Kd.Q_nil _ _ _ _ _ | exact Kd.S_nil _ _ _ _ _, by repeat (first | (with_reducible first | exact HB.out | apply below_alloc | apply pw_below_drewN | apply below_drew1) | exact HB.out)⟩
                  · rw [if_neg c13] at H
                    have c13b0 : ((Int.tmod (ji12) 2) == 1) = false := beq_eq_false_iff_ne.mpr c13
                    have c13b1 : ((Int.tmod (ji12) 2) != 1) = true := bne_iff_ne.mpr c13
                    have H' := Aside0.mk H
                    clear H
                    have p627 : 0 ≤ ((ji7) : Int) := of_decide_eq_true (by first | (with_reducible assumption) | assumption)
                    have q627 : (ji7) < (l1.length : Int) := of_decide_eq_true (by first | (with_reducible assumption) | assumption)
                    obtain ⟨ad627, e627, hx627_0⟩ := Kd.at_int HR1.out (ji7) p627 q627
                    cases e627
                    replace hx627_0 := (HB.out.cell (World.block_lt_of_cell? w _ hx627_0)).trans hx627_0
                    replace p627 := eq_true p627
                    replace q627 := eq_true q627
                    go_wp2
                    go_roundg k1
                    case measure => have := HK1.out; omega
                    case rel => exact ⟨(wrap64 (x7_1 + 1)), (by first | rfl | (simp; done) | (simp [*]; done)), H', ⟨by have := HK1.out; omega⟩, ⟨by repeat (first | (with_reducible first | exact HB.out | apply below_alloc | apply pw_below_drewN | apply below_drew1) | exact HB.out)⟩⟩
                · rw [if_neg c11] at H
                  exact absurd H (by simp)
              · rw [if_neg c9] at H
                exact absurd H (by simp)
            · rw [if_neg c8] at H
              exact absurd H (by simp)
          · rw [if_neg c6] at H
            have c6b0 : decide (x7_1 < (wrap64 (8 * (wrap64 (Int.tdiv (wrap64 ((l0.length : Int) + 7)) 8))))) = false := decide_eq_false c6
            clear c6
            have H' := Aside0.mk H
            clear H
            go_wp2
            go_loopg [8, 9, 10] k1 (fun kq v8 v9 v10 w' => ∃ (x8_2 : List (S39)) (x9_2 : Int) (x10_2 : Int), v9 = .int .i64 x9_2 ∧ v10 = .int .i64 x10_2 ∧ Aside0 (tidelineref04_Get.l1 kq l0 l1 x8_2 x9_2 x10_2 = some (r1, r2)) ∧ Aside0 (kq ≤ k1) ∧ Aside0 (Kd.R k39 39 w' w.heap.size (fun _ => True) v8 x8_2) ∧ Aside0 (Below w.heap.size w w'))
            case atStart => exact ⟨(([] : List (S39))), ((wrap64 (Int.tdiv (wrap64 ((l0.length : Int) + 7)) 8))), (0), (by first | rfl | (simp; done) | (simp [*]; done)), (by first | rfl | (simp; done) | (simp [*]; done)), H', ⟨Nat.le_refl _⟩, ⟨by first | exact Kd.R_nil _ _ _ _ _ | exact Kd.N_nil _ _ _ _ _ | exact Kd.V_nil _ _ _ _ _ | exact Kd.Q_nil _ _ _ _ _ | exact Kd.S_nil _ _ _ _ _⟩, ⟨by repeat (first | (with_reducible first | exact HB.out | apply below_alloc | apply pw_below_drewN | apply below_drew1) | exact HB.out)⟩⟩
            case round =>
              clear H'
              try clear c1
              try clear p2
              try clear c4
              try clear c5
              try clear c5b0
              try clear c6
              try clear c6b0
              try clear p6
              try clear q6
              try clear hx6
              try clear c8
              try clear c8b0
              try clear c9
              try clear c9b0
              try clear c11
              try clear c11b0
              try clear c11b1
              try clear c13
              try clear c13b0
              try clear c13b1
              try clear hx627_0
              try clear p2
              try clear p627
              try clear q627
              obtain ⟨x8_2, x9_2, x10_2, rfl, rfl, HA, HK2, HO_8, HB⟩ := hrel
              cases gk with
              | zero => exact absurd HA.out (by simp [tidelineref04_Get.l1])
              | succ k2 =>
                have H := HA.out
                clear HA
                simp only [tidelineref04_Get.l1] at H
                by_cases c14 : x10_2 < (l0.length : Int)
                · rw [if_pos c14] at H
                  have c14b0 : decide (x10_2 < (l0.length : Int)) = true := decide_eq_true c14
                  clear c14
                  obtain ⟨ji15, hji15⟩ : ∃ j_ : Int, (wrap64 (Int.tdiv x10_2 8)) = j_ := ⟨_, rfl⟩
                  replace H : (if 0 ≤ (ji15) then (if (ji15) < (l1.length : Int) then (if 0 ≤ (Int.tmod x10_2 8) then (if (Int.tmod (shr .u8 (rd l1 (ji15)) (Int.tmod x10_2 8)) 2) = 1 then (if x8_2.length < 4398046511104 then (tidelineref04_Get.l1 k2 l0 l1 (x8_2 ++ [(⟨0, 0, (⟨#[]⟩ : ByteArray)⟩ : S39)]) x9_2 (wrap64 (x10_2 + 1))) else (none)) else (if 0 ≤ x10_2 then (if 0 ≤ x9_2 then (if x9_2 ≤ (l1.length : Int) then ((tidelineref04_Value.f k2 (rd l0 x10_2) (l1.drop (x9_2 : Int).toNat)).bind fun bt634 => (if bt634.2.2.2.2 = 0 then (if x8_2.length < 4398046511104 then (tidelineref04_Get.l1 k2 l0 l1 (x8_2 ++ [(⟨bt634.1, bt634.2.1, bt634.2.2.1⟩ : S39)]) (wrap64 (x9_2 + bt634.2.2.2.1)) (wrap64 (x10_2 + 1))) else (none)) else (some (([] : List (S39)), bt634.2.2.2.2)))) else (none)) else (none)) else (none))) else (none)) else (none)) else (none)) = some (r1, r2) := by first | (rw [hji15] at H; exact H) | (simp only [hji15] at H ⊢; exact H)
                  have hji15w : (IntKind.i64.wrap (Int.tdiv x10_2 8)) = ji15 := (i64_w _).trans hji15
                  by_cases c16 : 0 ≤ (ji15)
                  · rw [if_pos c16] at H
                    have c16b0 : decide (0 ≤ (ji15)) = true := decide_eq_true c16
                    clear c16
                    by_cases c17 : (ji15) < (l1.length : Int)
                    · rw [if_pos c17] at H
                      have c17b0 : decide ((ji15) < (l1.length : Int)) = true := decide_eq_true c17
                      clear c17
                      obtain ⟨ji18, hji18⟩ : ∃ j_ : Int, (Int.tmod x10_2 8) = j_ := ⟨_, rfl⟩
                      replace H : (if 0 ≤ (ji18) then (if (Int.tmod (shr .u8 (rd l1 (ji15)) (ji18)) 2) = 1 then (if x8_2.length < 4398046511104 then (tidelineref04_Get.l1 k2 l0 l1 (x8_2 ++ [(⟨0, 0, (⟨#[]⟩ : ByteArray)⟩ : S39)]) x9_2 (wrap64 (x10_2 + 1))) else (none)) else (if 0 ≤ x10_2 then (if 0 ≤ x9_2 then (if x9_2 ≤ (l1.length : Int) then ((tidelineref04_Value.f k2 (rd l0 x10_2) (l1.drop (x9_2 : Int).toNat)).bind fun bt634 => (if bt634.2.2.2.2 = 0 then (if x8_2.length < 4398046511104 then (tidelineref04_Get.l1 k2 l0 l1 (x8_2 ++ [(⟨bt634.1, bt634.2.1, bt634.2.2.1⟩ : S39)]) (wrap64 (x9_2 + bt634.2.2.2.1)) (wrap64 (x10_2 + 1))) else (none)) else (some (([] : List (S39)), bt634.2.2.2.2)))) else (none)) else (none)) else (none))) else (none)) = some (r1, r2) := by first | (rw [hji18] at H; exact H) | (simp only [hji18] at H ⊢; exact H)
                      by_cases c19 : 0 ≤ (ji18)
                      · rw [if_pos c19] at H
                        have c19b0 := eq_true c19
                        have c19b1 : decide (0 ≤ (ji18)) = true := decide_eq_true c19
                        clear c19
                        obtain ⟨ji20, hji20⟩ : ∃ j_ : Int, (shr .u8 (rd l1 (ji15)) (ji18)) = j_ := ⟨_, rfl⟩
                        replace H : (if (Int.tmod (ji20) 2) = 1 then (if x8_2.length < 4398046511104 then (tidelineref04_Get.l1 k2 l0 l1 (x8_2 ++ [(⟨0, 0, (⟨#[]⟩ : ByteArray)⟩ : S39)]) x9_2 (wrap64 (x10_2 + 1))) else (none)) else (if 0 ≤ x10_2 then (if 0 ≤ x9_2 then (if x9_2 ≤ (l1.length : Int) then ((tidelineref04_Value.f k2 (rd l0 x10_2) (l1.drop (x9_2 : Int).toNat)).bind fun bt634 => (if bt634.2.2.2.2 = 0 then (if x8_2.length < 4398046511104 then (tidelineref04_Get.l1 k2 l0 l1 (x8_2 ++ [(⟨bt634.1, bt634.2.1, bt634.2.2.1⟩ : S39)]) (wrap64 (x9_2 + bt634.2.2.2.1)) (wrap64 (x10_2 + 1))) else (none)) else (some (([] : List (S39)), bt634.2.2.2.2)))) else (none)) else (none)) else (none))) = some (r1, r2) := by first | (rw [hji20] at H; exact H) | (simp only [hji20] at H ⊢; exact H)
                        have hji20_ : ((rd l1 (ji15)) / 2 ^ min (ji18).toNat 8) = ji20 := hji20
                        have hji20z : (ji18) ≤ 8 → ((rd l1 (ji15)) / 2 ^ (ji18).toNat) = ji20 := shr_small hji20
                        by_cases c21 : (Int.tmod (ji20) 2) = 1
                        · rw [if_pos c21] at H
                          have c21b0 : ((Int.tmod (ji20) 2) == 1) = true := beq_iff_eq.mpr c21
                          have c21b1 : ((Int.tmod (ji20) 2) != 1) = false := bne_eq_false_iff_eq.mpr c21
                          clear c21
                          by_cases c22 : x8_2.length < 4398046511104
                          · rw [if_pos c22] at H
                            have LMc22 := Aside0.mk c22
                            clear c22
                            obtain ⟨y629, hy629⟩ : ∃ y_ : List (S39), y_ = (x8_2 ++ [(⟨0, 0, (⟨#[]⟩ : ByteArray)⟩ : S39)]) := ⟨_, rfl⟩
                            replace H : (tidelineref04_Get.l1 k2 l0 l1 y629 x9_2 (wrap64 (x10_2 + 1))) = some (r1, r2) := by first | (rw [hy629]; with_reducible exact H) | (have H2_ := (Option.bind_some _ _).symm.trans H; rw [hy629]; with_reducible exact H2_) | (have H2_ := (Option.bind_some _ _).symm.trans H; with_reducible exact H2_) | with_reducible exact H | (rw [hy629]; exact H) | exact H
                            have Ny629 := Aside0.mk hy629
                            clear hy629
                            have H' := Aside0.mk H
                            clear H
                            have p628 : 0 ≤ ((ji15) : Int) := of_decide_eq_true (by first | (with_reducible assumption) | assumption)
                            have q628 : (ji15) < (l1.length : Int) := of_decide_eq_true (by first | (with_reducible assumption) | assumption)
                            obtain ⟨ad628, e628, hx628_0⟩ := Kd.at_int HR1.out (ji15) p628 q628
                            cases e628
                            replace hx628_0 := (HB.out.cell (World.block_lt_of_cell? w _ hx628_0)).trans hx628_0
                            replace p628 := eq_true p628
                            replace q628 := eq_true q628
                            go_wp2_with (first | ((with_reducible refine gate_builtin (b := .append) (xs := #[.tmp 60, .tmp 62]) rfl ?_); at_builtin; refine Kd.R_append k39 (w0 := w) w.heap.size rfl (.tmp 60) (.tmp 62) 23 39 (.agg #[(.int .u8 0), (.int .i64 0), (.string ⟨#[]⟩)]) 32 rfl Try.underlying23 info39 rfl (by decide) (by omega) u8 x8_2 (⟨0, 0, (⟨#[]⟩ : ByteArray)⟩ : S39) [.int .u8 0, .int .i64 0, .string (⟨#[]⟩ : ByteArray)] (fun _ => True) (fun _ => False) rfl rfl ?aP (fun _ hk => hk.elim) ?aF ?aO ?aB ?aS ?aL ?_; (case aP => exact k39_mkM _ _ _ (⟨0, 0, (⟨#[]⟩ : ByteArray)⟩ : S39)); (case aB => exact (by repeat (first | (with_reducible first | exact HB.out | apply below_alloc | apply pw_below_drewN | apply below_drew1) | exact HB.out))); (case aF => exact (fun _ _ => trivial)); (case aO => exact (by (with_reducible repeat (first | apply Kd.R_alloc | apply Kd.R_drewN | apply Kd.R_drew)); exact HO_8.out)); (case aS => exact (below_size (by repeat (first | (with_reducible first | exact HB.out | apply below_alloc | apply pw_below_drewN | apply below_drew1) | exact HB.out)))); (case aL => have := LMc22.out; omega); intro v630 w23 ho hb hg hat; rw [← Ny629.out] at ho; have n0_ := Aside0.mk (hb); have n1_ := Aside0.mk (ho); clear HB; clear HO_8; have HB := n0_; have HO631 := n1_; clear n0_ n1_; clear ho hb hg hat))
                            go_roundg k2
                            case measure => have := HK1.out; have := HK2.out; omega
                            case rel => exact ⟨(y629), (x9_2), (wrap64 (x10_2 + 1)), (by first | rfl | (simp; done) | (simp [*]; done)), (by first | rfl | (simp; done) | (simp [*]; done)), H', ⟨by have := HK1.out; have := HK2.out; omega⟩, ⟨by (with_reducible repeat (first | apply Kd.R_alloc | apply Kd.R_drewN | apply Kd.R_drew)); exact HO631.out⟩, ⟨by repeat (first | (with_reducible first | exact HB.out | apply below_alloc | apply pw_below_drewN | apply below_drew1) | exact HB.out)⟩⟩
                          · rw [if_neg c22] at H
                            exact absurd H (by simp)
                        · rw [if_neg c21] at H
                          have c21b0 : ((Int.tmod (ji20) 2) == 1) = false := beq_eq_false_iff_ne.mpr c21
                          have c21b1 : ((Int.tmod (ji20) 2) != 1) = true := bne_iff_ne.mpr c21
                          by_cases c24 : 0 ≤ x10_2
                          · rw [if_pos c24] at H
                            have c24b0 : decide (0 ≤ x10_2) = true := decide_eq_true c24
                            clear c24
                            by_cases c25 : 0 ≤ x9_2
                            · rw [if_pos c25] at H
                              have c25b0 := eq_true c25
                              have c25b1 : decide (0 ≤ x9_2) = true := decide_eq_true c25
                              clear c25
                              by_cases c26 : x9_2 ≤ (l1.length : Int)
                              · rw [if_pos c26] at H
                                have c26b0 := eq_true c26
                                have c26b1 : decide (x9_2 ≤ (l1.length : Int)) = true := decide_eq_true c26
                                clear c26
                                replace H := Option.bind_eq_some_iff.mp H
                                obtain ⟨⟨t634, t635, t636, t637, t638⟩, A270, H⟩ := H
                                replace H : (if t638 = 0 then (if x8_2.length < 4398046511104 then (tidelineref04_Get.l1 k2 l0 l1 (x8_2 ++ [(⟨t634, t635, t636⟩ : S39)]) (wrap64 (x9_2 + t637)) (wrap64 (x10_2 + 1))) else (none)) else (some (([] : List (S39)), t638))) = some (r1, r2) := H
                                have A27 := Aside0.mk A270
                                clear A270
                                by_cases c28 : t638 = 0
                                · rw [if_pos c28] at H
                                  have c28b0 : (t638 == 0) = true := beq_iff_eq.mpr c28
                                  have c28b1 : (t638 != 0) = false := bne_eq_false_iff_eq.mpr c28
                                  clear c28
                                  by_cases c29 : x8_2.length < 4398046511104
                                  · rw [if_pos c29] at H
                                    have LMc29 := Aside0.mk c29
                                    clear c29
                                    obtain ⟨y640, hy640⟩ : ∃ y_ : List (S39), y_ = (x8_2 ++ [(⟨t634, t635, t636⟩ : S39)]) := ⟨_, rfl⟩
                                    replace H : (tidelineref04_Get.l1 k2 l0 l1 y640 (wrap64 (x9_2 + t637)) (wrap64 (x10_2 + 1))) = some (r1, r2) := by first | (rw [hy640]; with_reducible exact H) | (have H2_ := (Option.bind_some _ _).symm.trans H; rw [hy640]; with_reducible exact H2_) | (have H2_ := (Option.bind_some _ _).symm.trans H; with_reducible exact H2_) | with_reducible exact H | (rw [hy640]; exact H) | exact H
                                    have Ny640 := Aside0.mk hy640
                                    clear hy640
                                    have H' := Aside0.mk H
                                    clear H
                                    have p628 : 0 ≤ ((ji15) : Int) := of_decide_eq_true (by first | (with_reducible assumption) | assumption)
                                    have q628 : (ji15) < (l1.length : Int) := of_decide_eq_true (by first | (with_reducible assumption) | assumption)
                                    obtain ⟨ad628, e628, hx628_0⟩ := Kd.at_int HR1.out (ji15) p628 q628
                                    cases e628
                                    replace hx628_0 := (HB.out.cell (World.block_lt_of_cell? w _ hx628_0)).trans hx628_0
                                    replace p628 := eq_true p628
                                    replace q628 := eq_true q628
                                    try go_wp2
                                    have n0_ := Aside0.mk (Kd.R_drew HO_8.out)
                                    have n1_ := Aside0.mk (below_drew1 HB.out)
                                    clear HO_8
                                    clear HB
                                    have HO_8 := n0_
                                    have HB := n1_
                                    clear n0_ n1_
                                    have p632 : 0 ≤ (x10_2 : Int) := of_decide_eq_true (by first | (with_reducible assumption) | assumption)
                                    have q632 : x10_2 < (l0.length : Int) := of_decide_eq_true (by first | (with_reducible assumption) | assumption)
                                    obtain ⟨ad632, e632, hx632_0⟩ := Kd.at_int HR0.out x10_2 p632 q632
                                    have hw632_0 := hx632_0
                                    cases e632
                                    replace hx632_0 := (HB.out.cell (World.block_lt_of_cell? w _ hx632_0)).trans hx632_0
                                    replace p632 := eq_true p632
                                    replace q632 := eq_true q632
                                    obtain ⟨i031, hi031, _, hsz31, _⟩ := info_parts info5
                                    obtain ⟨A31, hcut31, hA31, hC31⟩ := print_drop_of (P := Try.prog) (Value.int .u8) 0 22 5 .i64 Try.underlying22 hi031 hsz31 (some ad628) c1 l1 x9_2 (of_decide_eq_true (by first | (with_reducible assumption) | assumption)) (of_decide_eq_true (by first | (with_reducible assumption) | assumption)) HC1.out
                                    have HR633 := Aside0.mk (Kd.C_of_reads (h1 := fun _ => rfl) (hA31 _ (Kd.reads_of_C HR1.out)))
                                    have HC633 := Aside0.mk hC31
                                    clear hA31 hC31 hi031 hsz31
                                    refine start_ (n := 16) (S := fun w' => w'.cell? (ad632.add (x10_2).toNat) = some (.int .u8 (rd l0 x10_2))) (ds := []) #[false, false, false, false, false, false, false, false, false, false, false, false, false, false, false, false] (by kernel_rfl) rfl rfl (((HB.out.cell (World.block_lt_of_cell? w _ hw632_0)).trans hw632_0)) (fun hHeld => ?_); refine with_tabW tidelineref04_Get.tab18 tidelineref04_Get.bits18 (fun HT_ HW_ => ?_)
                                    generalize wr.drew = w30 at HO_8 HB HR633 hx632_0 hHeld ⊢
                                    refine pure_ (i := 0) (N := some 65) (v := ?_) (a' := ?_) #[true, false, false, false, false, false, false, false, false, false, false, false, false, false, false, false] rfl rfl (any_of HT_.out (by kernel_rfl)) (fun _ _ _ h => h) (Or.inl ⟨by rfl, ?_⟩) ?_ ?_
                                    rotate_left
                                    · intro w'
                                      go_simp
                                      with_reducible rfl
                                    rotate_left
                                    · simp only [Act.put, List.setIfInBounds_toArray, List.set_cons_zero, List.set_cons_succ, i64_w, i32_w]
                                      rfl
                                    refine pure_ (i := 1) (N := some 66) (v := ?_) (a' := ?_) #[true, true, false, false, false, false, false, false, false, false, false, false, false, false, false, false] rfl rfl (any_of HT_.out (by kernel_rfl)) (fun _ _ _ h => h) (Or.inl ⟨by rfl, ?_⟩) ?_ ?_
                                    rotate_left
                                    · intro w'
                                      go_simp
                                      with_reducible rfl
                                    rotate_left
                                    · simp only [Act.put, List.setIfInBounds_toArray, List.set_cons_zero, List.set_cons_succ, i64_w, i32_w]
                                      rfl
                                    refine pure_ (i := 2) (N := some 67) (v := ?_) (a' := ?_) #[true, true, true, false, false, false, false, false, false, false, false, false, false, false, false, false] rfl rfl (any_of HT_.out (by kernel_rfl)) (fun _ _ _ h => h) (Or.inl ⟨by rfl, ?_⟩) ?_ ?_
                                    rotate_left
                                    · intro w'
                                      go_simp
                                      with_reducible rfl
                                    rotate_left
                                    · simp only [Act.put, List.setIfInBounds_toArray, List.set_cons_zero, List.set_cons_succ, i64_w, i32_w]
                                      rfl
                                    refine pure_ (i := 4) (N := some 69) (v := ?_) (a' := ?_) #[true, true, true, false, true, false, false, false, false, false, false, false, false, false, false, false] rfl rfl (any_of HT_.out (by kernel_rfl)) (fun _ _ _ h => h) (Or.inl ⟨by rfl, ?_⟩) ?_ ?_
                                    rotate_left
                                    · intro w'
                                      go_simp
                                      with_reducible rfl
                                    rotate_left
                                    · simp only [Act.put, List.setIfInBounds_toArray, List.set_cons_zero, List.set_cons_succ, i64_w, i32_w]
                                      rfl
                                    refine pure_ (i := 5) (N := some 70) (v := ?_) (a' := ?_) #[true, true, true, false, true, true, false, false, false, false, false, false, false, false, false, false] rfl rfl (any_of HT_.out (by kernel_rfl)) (fun _ _ _ h => h) (Or.inl ⟨by rfl, ?_⟩) ?_ ?_
                                    rotate_left
                                    · intro w'
                                      go_simp
                                      with_reducible rfl
                                    rotate_left
                                    · simp only [Act.put, List.setIfInBounds_toArray, List.set_cons_zero, List.set_cons_succ, i64_w, i32_w]
                                      rfl
                                    refine pure_ (i := 6) (N := some 71) (v := ?_) (a' := ?_) #[true, true, true, false, true, true, true, false, false, false, false, false, false, false, false, false] rfl rfl (any_of HT_.out (by kernel_rfl)) (fun _ _ _ h => h) (Or.inl ⟨by rfl, ?_⟩) ?_ ?_
                                    rotate_left
                                    · intro w'
                                      go_simp
                                      with_reducible rfl
                                    rotate_left
                                    · simp only [Act.put, List.setIfInBounds_toArray, List.set_cons_zero, List.set_cons_succ, i64_w, i32_w]
                                      rfl
                                    refine take_ (i := 3) (N := some 68) (v := ?_) (a' := ?_) #[true, true, true, true, true, true, true, false, false, false, false, false, false, false, false, false] rfl rfl (take_ofW HT_.out HW_.out (by kernel_rfl)) (fun _ _ _ h => h) (Or.inl ⟨by rfl, ?_⟩) hHeld ?_ ?_
                                    rotate_left
                                    · intro w' s0
                                      go_simp
                                      with_reducible rfl
                                    rotate_left
                                    · simp only [Act.put, List.setIfInBounds_toArray, List.set_cons_zero, List.set_cons_succ, i64_w, i32_w]
                                      rfl
                                    refine join_ (σ := Nat) 3 #[true, true, true, true, true, true, true, true, true, true, true, true, true, false, false, false] (fun s_ => [(72, .tuple #[.agg #[.int .u8 t634, .int .i64 t635, .string t636], .int .i64 t637, .int .i64 t638]), (11, .pointer (some ⟨s_, 0, none⟩)), (64, .tuple #[.agg #[.int .u8 t634, .int .i64 t635, .string t636], .int .i64 t637, .int .i64 t638]), (73, .agg #[.int .u8 t634, .int .i64 t635, .string t636]), (74, .int .i64 t637), (75, .int .i64 t638)]) (fun s_ w' => (w'.cell? (ad632.add (x10_2).toNat) = some (.int .u8 (rd l0 x10_2))) ∧ (Kd.R k39 39 w' w.heap.size (fun k_ => k_ ≠ s_) u8 x8_2) ∧ (w'.heap[s_]? = some (.cells #[.int .u8 0, .int .i64 0, .string (⟨#[]⟩ : ByteArray)] 39 (0, 0))) ∧ (w.heap.size ≤ s_) ∧ (w.heap.size ≤ s_) ∧ (Below w.heap.size w w')) ?_ ?_
                                    rotate_left
                                    · intro hCont
                                      refine two_ (i := 7) (j := 12) (Ni := some 72) (Nj := some 11) #[true, true, true, true, true, true, true, true, false, false, false, false, false, false, false, false] #[true, true, true, true, true, true, true, false, false, false, false, false, true, false, false, false] rfl rfl rfl rfl (two_of HT_.out (by kernel_rfl)) (by decide) (by decide) (fun K hK => ?_) (fun K hK => ?_)
                                      · skip
                                        refine goes_ Try.func88 (by kernel_rfl) rfl #[.int .u8 (rd l0 x10_2), .slice A31 (l1.drop (x9_2 : Int).toNat).length (c1 - x9_2.toNat)] (by rfl) rfl rfl (by (try simp only [List.map_toArray, List.map_cons, List.map_nil]); first | done | (rw [show (l1.drop (x9_2 : Int).toNat).length = (l1.length - x9_2.toNat) from List.length_drop] <;> rfl) | rfl | (simp only [List.length_drop, List.length_take]; rfl)) ?_
                                        with_reducible refine (tidelineref04_Value.calls k2 (rd l0 x10_2) _ _ (l1.drop (x9_2 : Int).toNat) t634 t635 t636 t637 t638 _ ?side1 ?side2 A27.out).mono ?_
                                        (case side1 => repeat (first | exact (Kd.C_below HR633.out HB.out) | (with_reducible refine Kd.C_alloc ?_ _) | (with_reducible refine Kd.C_drewN ?_ _) | (with_reducible refine Kd.C_drew ?_)))
                                        (case side2 => exact HC633.out)
                                        rintro e w32 ⟨rfl, hb⟩
                                        refine ⟨_, rfl, ?_⟩
                                        have n0_ := Aside0.mk (Kd.R_below (by (with_reducible repeat (first | apply Kd.R_alloc | apply Kd.R_drewN | apply Kd.R_drew)); exact HO_8.out) hb)
                                        have n1_ := Aside0.mk (below_step (by repeat (first | (with_reducible first | exact HB.out | apply below_alloc | apply pw_below_drewN | apply below_drew1) | exact HB.out)) hb)
                                        clear HO_8
                                        clear HB
                                        have HO_8 := n0_
                                        have HB := n1_
                                        clear n0_ n1_
                                        (try clear hb)
                                        (try clear hb2)
                                        (try clear hk)
                                        (try clear hi)
                                        refine hK.out _ _ (((HB.out.cell (World.block_lt_of_cell? w _ hw632_0)).trans hw632_0)) (fun hHeld => ?_)
                                        clear hK K
                                        refine norm_ (a' := ?_) ?_ ?_
                                        rotate_left
                                        · show Act.put _ (some 72) _ = _
                                          simp only [Act.put, List.setIfInBounds_toArray, List.set_cons_zero, List.set_cons_succ, i64_w, i32_w]
                                          rfl
                                        refine pure_ (i := 8) (N := some 64) (v := ?_) (a' := ?_) #[true, true, true, true, true, true, true, true, true, false, false, false, false, false, false, false] rfl rfl (any_of HT_.out (by kernel_rfl)) (fun _ _ _ h => h) (Or.inl ⟨by rfl, ?_⟩) ?_ ?_
                                        rotate_left
                                        · intro w'
                                          go_simp
                                          with_reducible rfl
                                        rotate_left
                                        · simp only [Act.put, List.setIfInBounds_toArray, List.set_cons_zero, List.set_cons_succ, i64_w, i32_w]
                                          rfl
                                        refine pure_ (i := 9) (N := some 73) (v := ?_) (a' := ?_) #[true, true, true, true, true, true, true, true, true, true, false, false, false, false, false, false] rfl rfl (any_of HT_.out (by kernel_rfl)) (fun _ _ _ h => h) (Or.inl ⟨by rfl, ?_⟩) ?_ ?_
                                        rotate_left
                                        · intro w'
                                          go_simp
                                          with_reducible rfl
                                        rotate_left
                                        · simp only [Act.put, List.setIfInBounds_toArray, List.set_cons_zero, List.set_cons_succ, i64_w, i32_w]
                                          rfl
                                        refine pure_ (i := 10) (N := some 74) (v := ?_) (a' := ?_) #[true, true, true, true, true, true, true, true, true, true, true, false, false, false, false, false] rfl rfl (any_of HT_.out (by kernel_rfl)) (fun _ _ _ h => h) (Or.inl ⟨by rfl, ?_⟩) ?_ ?_
                                        rotate_left
                                        · intro w'
                                          go_simp
                                          with_reducible rfl
                                        rotate_left
                                        · simp only [Act.put, List.setIfInBounds_toArray, List.set_cons_zero, List.set_cons_succ, i64_w, i32_w]
                                          rfl
                                        refine pure_ (i := 11) (N := some 75) (v := ?_) (a' := ?_) #[true, true, true, true, true, true, true, true, true, true, true, true, false, false, false, false] rfl rfl (any_of HT_.out (by kernel_rfl)) (fun _ _ _ h => h) (Or.inl ⟨by rfl, ?_⟩) ?_ ?_
                                        rotate_left
                                        · intro w'
                                          go_simp
                                          with_reducible rfl
                                        rotate_left
                                        · simp only [Act.put, List.setIfInBounds_toArray, List.set_cons_zero, List.set_cons_succ, i64_w, i32_w]
                                          rfl
                                        refine one_ (i := 12) (N := some 11) #[true, true, true, true, true, true, true, true, true, true, true, true, true, false, false, false] rfl rfl (one_of HT_.out (by kernel_rfl)) (by decide) (fun K hK => ?_)
                                        refine box_step ?hg (N := 11) ?hd (cs := #[.int .u8 0, .int .i64 0, .string (⟨#[]⟩ : ByteArray)]) (t := 39) ?hr ?_; (case hd => rfl); (case hg => rfl); (case hr => first | (go_simp; done) | (go_simp; rfl))
                                        intro gb639 hg w33 hbox hb
                                        have n0_ := Aside0.mk (Kd.R_below (Kd.R_elderB (by (with_reducible repeat (first | apply Kd.R_alloc | apply Kd.R_drewN | apply Kd.R_drew)); exact HO_8.out) gb639 (Nat.le_of_eq hg.symm)) hb)
                                        have n1_ := Aside0.mk (below_step (by repeat (first | (with_reducible first | exact HB.out | apply below_alloc | apply pw_below_drewN | apply below_drew1) | exact HB.out)) hb)
                                        have n2_ := Aside0.mk (hbox)
                                        have n3_ := Aside0.mk ((by rw [hg]; exact (below_size (by repeat (first | (with_reducible first | exact HB.out | apply below_alloc | apply pw_below_drewN | apply below_drew1) | exact HB.out))) : w.heap.size ≤ gb639))
                                        have n4_ := Aside0.mk ((by rw [hg]; exact (below_size (by repeat (first | (with_reducible first | exact HB.out | apply below_alloc | apply pw_below_drewN | apply below_drew1) | exact HB.out))) : w.heap.size ≤ gb639))
                                        clear HO_8
                                        clear HB
                                        have HO_8 := n0_
                                        have HB := n1_
                                        have BK639 := n2_
                                        have GW639 := n3_
                                        have GE639 := n4_
                                        clear n0_ n1_ n2_ n3_ n4_
                                        clear hb hbox hg
                                        refine hK.out _ _ (((HB.out.cell (World.block_lt_of_cell? w _ hw632_0)).trans hw632_0)) (fun hHeld => ?_)
                                        clear hK K
                                        refine norm_ (a' := ?_) ?_ ?_
                                        rotate_left
                                        · show Act.put _ (some 11) _ = _
                                          simp only [Act.put, List.setIfInBounds_toArray, List.set_cons_zero, List.set_cons_succ, i64_w, i32_w]
                                          rfl
                                        exact norm_ (by simp only [putAll, Act.put, List.setIfInBounds_toArray, List.set_cons_zero, List.set_cons_succ]) (hCont (gb639) _ ⟨hHeld, (by (with_reducible repeat (first | apply Kd.R_alloc | apply Kd.R_drewN | apply Kd.R_drew)); exact Kd.R_mono HO_8.out (fun _ hk => hk.2)), (by (with_reducible repeat (first | refine blk_drewN ?_ _ | refine blk_drew ?_ | refine blk_alloc ?_ _)); exact BK639.out), GW639.out, GE639.out, (by repeat (first | (with_reducible first | exact HB.out | apply below_alloc | apply pw_below_drewN | apply below_drew1 | refine below_set ?_ GE639.out) | exact HB.out))⟩)
                                      · skip
                                        refine box_step ?hg (N := 11) ?hd (cs := #[.int .u8 0, .int .i64 0, .string (⟨#[]⟩ : ByteArray)]) (t := 39) ?hr ?_; (case hd => rfl); (case hg => rfl); (case hr => first | (go_simp; done) | (go_simp; rfl))
                                        intro gb639 hg w32 hbox hb
                                        have n0_ := Aside0.mk (Kd.R_below (Kd.R_elderB (by (with_reducible repeat (first | apply Kd.R_alloc | apply Kd.R_drewN | apply Kd.R_drew)); exact HO_8.out) gb639 (Nat.le_of_eq hg.symm)) hb)
                                        have n1_ := Aside0.mk (below_step (by repeat (first | (with_reducible first | exact HB.out | apply below_alloc | apply pw_below_drewN | apply below_drew1) | exact HB.out)) hb)
                                        have n2_ := Aside0.mk (hbox)
                                        have n3_ := Aside0.mk ((by rw [hg]; exact (below_size (by repeat (first | (with_reducible first | exact HB.out | apply below_alloc | apply pw_below_drewN | apply below_drew1) | exact HB.out))) : w.heap.size ≤ gb639))
                                        have n4_ := Aside0.mk ((by rw [hg]; exact (below_size (by repeat (first | (with_reducible first | exact HB.out | apply below_alloc | apply pw_below_drewN | apply below_drew1) | exact HB.out))) : w.heap.size ≤ gb639))
                                        clear HO_8
                                        clear HB
                                        have HO_8 := n0_
                                        have HB := n1_
                                        have BK639 := n2_
                                        have GW639 := n3_
                                        have GE639 := n4_
                                        clear n0_ n1_ n2_ n3_ n4_
                                        clear hb hbox hg
                                        refine hK.out _ _ (((HB.out.cell (World.block_lt_of_cell? w _ hw632_0)).trans hw632_0)) (fun hHeld => ?_)
                                        clear hK K
                                        refine norm_ (a' := ?_) ?_ ?_
                                        rotate_left
                                        · show Act.put _ (some 11) _ = _
                                          simp only [Act.put, List.setIfInBounds_toArray, List.set_cons_zero, List.set_cons_succ, i64_w, i32_w]
                                          rfl
                                        refine one_ (i := 7) (N := some 72) #[true, true, true, true, true, true, true, true, false, false, false, false, true, false, false, false] rfl rfl (one_of HT_.out (by kernel_rfl)) (by decide) (fun K hK => ?_)
                                        refine goes_ Try.func88 (by kernel_rfl) rfl #[.int .u8 (rd l0 x10_2), .slice A31 (l1.drop (x9_2 : Int).toNat).length (c1 - x9_2.toNat)] (by rfl) rfl rfl (by (try simp only [List.map_toArray, List.map_cons, List.map_nil]); first | done | (rw [show (l1.drop (x9_2 : Int).toNat).length = (l1.length - x9_2.toNat) from List.length_drop] <;> rfl) | rfl | (simp only [List.length_drop, List.length_take]; rfl)) ?_
                                        with_reducible refine (tidelineref04_Value.calls k2 (rd l0 x10_2) _ _ (l1.drop (x9_2 : Int).toNat) t634 t635 t636 t637 t638 _ ?side1 ?side2 A27.out).mono ?_
                                        (case side1 => repeat (first | exact (Kd.C_below HR633.out HB.out) | (with_reducible refine Kd.C_alloc ?_ _) | (with_reducible refine Kd.C_drewN ?_ _) | (with_reducible refine Kd.C_drew ?_)))
                                        (case side2 => exact HC633.out)
                                        rintro e w33 ⟨rfl, hb⟩
                                        refine ⟨_, rfl, ?_⟩
                                        have n0_ := Aside0.mk (Kd.R_below (by (with_reducible repeat (first | apply Kd.R_alloc | apply Kd.R_drewN | apply Kd.R_drew)); exact HO_8.out) hb)
                                        have n1_ := Aside0.mk (blk_below (g := gb639) (o := .cells #[.int .u8 0, .int .i64 0, .string (⟨#[]⟩ : ByteArray)] 39 (0, 0)) (by (with_reducible repeat (first | refine blk_drewN ?_ _ | refine blk_drew ?_ | refine blk_alloc ?_ _)); exact BK639.out) hb)
                                        have n2_ := Aside0.mk (below_step (by repeat (first | (with_reducible first | exact HB.out | apply below_alloc | apply pw_below_drewN | apply below_drew1 | refine below_set ?_ GE639.out) | exact HB.out)) hb)
                                        clear HO_8
                                        clear BK639
                                        clear HB
                                        have HO_8 := n0_
                                        have BK639 := n1_
                                        have HB := n2_
                                        clear n0_ n1_ n2_
                                        (try clear hb)
                                        (try clear hb2)
                                        (try clear hk)
                                        (try clear hi)
                                        refine hK.out _ _ (((HB.out.cell (World.block_lt_of_cell? w _ hw632_0)).trans hw632_0)) (fun hHeld => ?_)
                                        clear hK K
                                        refine norm_ (a' := ?_) ?_ ?_
                                        rotate_left
                                        · show Act.put _ (some 72) _ = _
                                          simp only [Act.put, List.setIfInBounds_toArray, List.set_cons_zero, List.set_cons_succ, i64_w, i32_w]
                                          rfl
                                        refine pure_ (i := 8) (N := some 64) (v := ?_) (a' := ?_) #[true, true, true, true, true, true, true, true, true, false, false, false, true, false, false, false] rfl rfl (any_of HT_.out (by kernel_rfl)) (fun _ _ _ h => h) (Or.inl ⟨by rfl, ?_⟩) ?_ ?_
                                        rotate_left
                                        · intro w'
                                          go_simp
                                          with_reducible rfl
                                        rotate_left
                                        · simp only [Act.put, List.setIfInBounds_toArray, List.set_cons_zero, List.set_cons_succ, i64_w, i32_w]
                                          rfl
                                        refine pure_ (i := 9) (N := some 73) (v := ?_) (a' := ?_) #[true, true, true, true, true, true, true, true, true, true, false, false, true, false, false, false] rfl rfl (any_of HT_.out (by kernel_rfl)) (fun _ _ _ h => h) (Or.inl ⟨by rfl, ?_⟩) ?_ ?_
                                        rotate_left
                                        · intro w'
                                          go_simp
                                          with_reducible rfl
                                        rotate_left
                                        · simp only [Act.put, List.setIfInBounds_toArray, List.set_cons_zero, List.set_cons_succ, i64_w, i32_w]
                                          rfl
                                        refine pure_ (i := 10) (N := some 74) (v := ?_) (a' := ?_) #[true, true, true, true, true, true, true, true, true, true, true, false, true, false, false, false] rfl rfl (any_of HT_.out (by kernel_rfl)) (fun _ _ _ h => h) (Or.inl ⟨by rfl, ?_⟩) ?_ ?_
                                        rotate_left
                                        · intro w'
                                          go_simp
                                          with_reducible rfl
                                        rotate_left
                                        · simp only [Act.put, List.setIfInBounds_toArray, List.set_cons_zero, List.set_cons_succ, i64_w, i32_w]
                                          rfl
                                        refine pure_ (i := 11) (N := some 75) (v := ?_) (a' := ?_) #[true, true, true, true, true, true, true, true, true, true, true, true, true, false, false, false] rfl rfl (any_of HT_.out (by kernel_rfl)) (fun _ _ _ h => h) (Or.inl ⟨by rfl, ?_⟩) ?_ ?_
                                        rotate_left
                                        · intro w'
                                          go_simp
                                          with_reducible rfl
                                        rotate_left
                                        · simp only [Act.put, List.setIfInBounds_toArray, List.set_cons_zero, List.set_cons_succ, i64_w, i32_w]
                                          rfl
                                        exact norm_ (by simp only [putAll, Act.put, List.setIfInBounds_toArray, List.set_cons_zero, List.set_cons_succ]) (hCont (gb639) _ ⟨hHeld, (by (with_reducible repeat (first | apply Kd.R_alloc | apply Kd.R_drewN | apply Kd.R_drew)); exact Kd.R_mono HO_8.out (fun _ hk => hk.2)), (by (with_reducible repeat (first | refine blk_drewN ?_ _ | refine blk_drew ?_ | refine blk_alloc ?_ _)); exact BK639.out), GW639.out, GE639.out, (by repeat (first | (with_reducible first | exact HB.out | apply below_alloc | apply pw_below_drewN | apply below_drew1 | refine below_set ?_ GE639.out) | exact HB.out))⟩)
                                    rintro gb639 w34 ⟨hS_, h0_, h1_, h2_, h3_, h4_⟩
                                    have n0_ : Aside0 (Kd.R k39 39 w34 w.heap.size (fun k_ => k_ ≠ gb639) u8 x8_2) := ⟨h0_⟩
                                    have n1_ : Aside0 (w34.heap[gb639]? = some (.cells #[.int .u8 0, .int .i64 0, .string (⟨#[]⟩ : ByteArray)] 39 (0, 0))) := ⟨h1_⟩
                                    have n2_ : Aside0 (w.heap.size ≤ gb639) := ⟨h2_⟩
                                    have n3_ : Aside0 (w.heap.size ≤ gb639) := ⟨h3_⟩
                                    have n4_ : Aside0 (Below w.heap.size w w34) := ⟨h4_⟩
                                    clear HO_8
                                    clear HB
                                    clear h0_ h1_ h2_ h3_ h4_
                                    have HO_8 := n0_
                                    have BK639 := n1_
                                    have GW639 := n2_
                                    have GE639 := n3_
                                    have HB := n4_
                                    clear n0_ n1_ n2_ n3_ n4_
                                    have hHeld : w34.cell? (ad632.add (x10_2).toNat) = some (.int .u8 (rd l0 x10_2)) := hS_
                                    refine norm_ (a' := ?_) ?_ ?_
                                    rotate_left
                                    · simp only [putAll, Act.put, List.setIfInBounds_toArray, List.set_cons_zero, List.set_cons_succ]
                                      rfl
                                    refine one_ (i := 13) (N := none) #[true, true, true, true, true, true, true, true, true, true, true, true, true, true, false, false] rfl rfl (one_of HT_.out (by kernel_rfl)) (by decide) (fun K hK => ?_)
                                    have hs35 : w34.cell? ⟨gb639, 0, none⟩ = some (.int .u8 0) := (blk_cell BK639.out 0).trans rfl
                                    have hfs35 := blk_frozen BK639.out 0
                                    have hs36 : w34.cell? ⟨gb639, 1, none⟩ = some (.int .i64 0) := (blk_cell BK639.out 1).trans rfl
                                    have hfs36 := blk_frozen BK639.out 1
                                    have hs37 : w34.cell? ⟨gb639, 2, none⟩ = some (.string (⟨#[]⟩ : ByteArray)) := (blk_cell BK639.out 2).trans rfl
                                    have hfs37 := blk_frozen BK639.out 2
                                    refine skip_ (w1 := ?_) (by rfl) rfl ?_ ?_
                                    rotate_left
                                    · go_simp
                                      rfl
                                    refine hK.out _ _ (((cell_far (p := ⟨gb639, _, none⟩) (by first | exact Nat.ne_of_lt (Nat.lt_of_lt_of_le (by have := World.block_lt_of_cell? _ _ hw632_0; first | rwa [add_block] at this | exact this) GW639.out) | (rw [add_block]; exact Nat.ne_of_lt (Nat.lt_of_lt_of_le (by have := World.block_lt_of_cell? _ _ hw632_0; first | rwa [add_block] at this | exact this) GW639.out)) | (show (Addr.add _ _).block ≠ _; rw [add_block]; exact Nat.ne_of_lt (Nat.lt_of_lt_of_le (by have := World.block_lt_of_cell? _ _ hw632_0; first | rwa [add_block] at this | exact this) GW639.out)) | (dsimp only; exact Nat.ne_of_lt (Nat.lt_of_lt_of_le (by have := World.block_lt_of_cell? _ _ hw632_0; first | rwa [add_block] at this | exact this) GW639.out))) _).trans (((cell_far (p := ⟨gb639, _, none⟩) (by first | exact Nat.ne_of_lt (Nat.lt_of_lt_of_le (by have := World.block_lt_of_cell? _ _ hw632_0; first | rwa [add_block] at this | exact this) GW639.out) | (rw [add_block]; exact Nat.ne_of_lt (Nat.lt_of_lt_of_le (by have := World.block_lt_of_cell? _ _ hw632_0; first | rwa [add_block] at this | exact this) GW639.out)) | (show (Addr.add _ _).block ≠ _; rw [add_block]; exact Nat.ne_of_lt (Nat.lt_of_lt_of_le (by have := World.block_lt_of_cell? _ _ hw632_0; first | rwa [add_block] at this | exact this) GW639.out)) | (dsimp only; exact Nat.ne_of_lt (Nat.lt_of_lt_of_le (by have := World.block_lt_of_cell? _ _ hw632_0; first | rwa [add_block] at this | exact this) GW639.out))) _).trans (((cell_far (p := ⟨gb639, _, none⟩) (by first | exact Nat.ne_of_lt (Nat.lt_of_lt_of_le (by have := World.block_lt_of_cell? _ _ hw632_0; first | rwa [add_block] at this | exact this) GW639.out) | (rw [add_block]; exact Nat.ne_of_lt (Nat.lt_of_lt_of_le (by have := World.block_lt_of_cell? _ _ hw632_0; first | rwa [add_block] at this | exact this) GW639.out)) | (show (Addr.add _ _).block ≠ _; rw [add_block]; exact Nat.ne_of_lt (Nat.lt_of_lt_of_le (by have := World.block_lt_of_cell? _ _ hw632_0; first | rwa [add_block] at this | exact this) GW639.out)) | (dsimp only; exact Nat.ne_of_lt (Nat.lt_of_lt_of_le (by have := World.block_lt_of_cell? _ _ hw632_0; first | rwa [add_block] at this | exact this) GW639.out))) _).trans (hHeld))))))) (fun hHeld => ?_)
                                    clear hK K
                                    refine pure_ (i := 14) (N := some 12) (v := ?_) (a' := ?_) #[true, true, true, true, true, true, true, true, true, true, true, true, true, true, true, false] rfl rfl (any_of HT_.out (by kernel_rfl)) (fun _ _ _ h => h) (Or.inl ⟨by rfl, ?_⟩) ?_ ?_
                                    rotate_left
                                    · intro w'
                                      go_simp
                                      with_reducible rfl
                                    rotate_left
                                    · simp only [Act.put, List.setIfInBounds_toArray, List.set_cons_zero, List.set_cons_succ, i64_w, i32_w]
                                      rfl
                                    refine pure_ (i := 15) (N := some 13) (v := ?_) (a' := ?_) #[true, true, true, true, true, true, true, true, true, true, true, true, true, true, true, true] rfl rfl (any_of HT_.out (by kernel_rfl)) (fun _ _ _ h => h) (Or.inl ⟨by rfl, ?_⟩) ?_ ?_
                                    rotate_left
                                    · intro w'
                                      go_simp
                                      with_reducible rfl
                                    rotate_left
                                    · simp only [Act.put, List.setIfInBounds_toArray, List.set_cons_zero, List.set_cons_succ, i64_w, i32_w]
                                      rfl
                                    refine done_ (done_of HT_.out (by kernel_rfl)) ?_
                                    have hcz38_0 : w34.cell? ⟨gb639, 0, none⟩ = some (.int .u8 0) := (blk_cell BK639.out 0).trans rfl
                                    have hcz38_1 : w34.cell? ⟨gb639, 1, none⟩ = some (.int .i64 0) := (blk_cell BK639.out 1).trans rfl
                                    have hcz38_2 : w34.cell? ⟨gb639, 2, none⟩ = some (.string (⟨#[]⟩ : ByteArray)) := (blk_cell BK639.out 2).trans rfl
                                    have hfz38_0 := blk_frozen BK639.out 0
                                    have hfz38_1 := blk_frozen BK639.out 1
                                    have hfz38_2 := blk_frozen BK639.out 2
                                    try go_wp2_with (first | ((with_reducible refine gate_builtin (b := .append) (xs := #[.tmp 79, .tmp 81]) rfl ?_); at_builtin; refine Kd.R_append k39 (w0 := w) w.heap.size rfl (.tmp 79) (.tmp 81) 23 39 (.agg #[(.int .u8 0), (.int .i64 0), (.string ⟨#[]⟩)]) 32 rfl Try.underlying23 info39 rfl (by decide) (by omega) u8 x8_2 (⟨t634, t635, t636⟩ : S39) [.int .u8 t634, .int .i64 t635, .string t636] (fun k_ => k_ ≠ gb639) (fun _ => False) rfl (by first | (go_simp; done) | (go_simp; rfl)) ?aP (fun _ hk => hk.elim) ?aF ?aO ?aB ?aS ?aL ?_; (case aP => exact k39_mkM _ _ _ (⟨t634, t635, t636⟩ : S39)); (case aB => exact (by repeat (first | (with_reducible first | exact HB.out | apply below_alloc | apply pw_below_drewN | apply below_drew1 | refine below_set ?_ GE639.out) | exact HB.out))); (case aF => exact (fun k_ hk => Kd.freshB (g := gb639) (o := .cells #[.int .u8 t634, .int .i64 t635, .string t636] 39 (0, 0)) (by (with_reducible repeat (first | refine blk_drewN ?_ _ | refine blk_drew ?_ | refine blk_alloc ?_ _)); refine blk_put (cs := #[.int .u8 t634, .int .i64 t635, .string (⟨#[]⟩ : ByteArray)]) ?_ 2 _ rfl; (with_reducible repeat (first | refine blk_drewN ?_ _ | refine blk_drew ?_ | refine blk_alloc ?_ _)); refine blk_put (cs := #[.int .u8 t634, .int .i64 0, .string (⟨#[]⟩ : ByteArray)]) ?_ 1 _ rfl; (with_reducible repeat (first | refine blk_drewN ?_ _ | refine blk_drew ?_ | refine blk_alloc ?_ _)); refine blk_put (cs := #[.int .u8 0, .int .i64 0, .string (⟨#[]⟩ : ByteArray)]) ?_ 0 _ rfl; (with_reducible repeat (first | refine blk_drewN ?_ _ | refine blk_drew ?_ | refine blk_alloc ?_ _)); exact BK639.out) k_ hk)); (case aO => exact (by (with_reducible repeat (first | apply Kd.R_alloc | apply Kd.R_drewN | apply Kd.R_drew)); exact Kd.R_mono (Kd.R_far (p := ⟨gb639, 2, none⟩) (Kd.R_far (p := ⟨gb639, 1, none⟩) (Kd.R_far (p := ⟨gb639, 0, none⟩) (Kd.R_mono HO_8.out (fun k_ hk => (⟨hk, hk⟩ : _ ∧ k_ ≠ gb639))) (fun _ hk => hk.2) (.int .u8 t634)) (fun _ hk => hk.2) (.int .i64 t635)) (fun _ hk => hk.2) (.string t636)) (fun _ hk => hk.1))); (case aS => exact (below_size (by repeat (first | (with_reducible first | exact HB.out | apply below_alloc | apply pw_below_drewN | apply below_drew1 | refine below_set ?_ GE639.out) | exact HB.out)))); (case aL => have := LMc29.out; omega); intro v641 w39 ho hb hg hat; rw [← Ny640.out] at ho; have n0_ := Aside0.mk (blk_grown (g := gb639) (o := .cells #[.int .u8 t634, .int .i64 t635, .string t636] 39 (0, 0)) (by (with_reducible repeat (first | refine blk_drewN ?_ _ | refine blk_drew ?_ | refine blk_alloc ?_ _)); refine blk_put (cs := #[.int .u8 t634, .int .i64 t635, .string (⟨#[]⟩ : ByteArray)]) ?_ 2 _ rfl; (with_reducible repeat (first | refine blk_drewN ?_ _ | refine blk_drew ?_ | refine blk_alloc ?_ _)); refine blk_put (cs := #[.int .u8 t634, .int .i64 0, .string (⟨#[]⟩ : ByteArray)]) ?_ 1 _ rfl; (with_reducible repeat (first | refine blk_drewN ?_ _ | refine blk_drew ?_ | refine blk_alloc ?_ _)); refine blk_put (cs := #[.int .u8 0, .int .i64 0, .string (⟨#[]⟩ : ByteArray)]) ?_ 0 _ rfl; (with_reducible repeat (first | refine blk_drewN ?_ _ | refine blk_drew ?_ | refine blk_alloc ?_ _)); exact BK639.out) hg (Kd.R_away HO_8.out (fun _ hk => hk))); have n1_ := Aside0.mk (hb); have n2_ := Aside0.mk (ho); clear BK639; clear HB; clear HO_8; have BK639 := n0_; have HB := n1_; have HO642 := n2_; clear n0_ n1_ n2_; clear ho hb hg hat))
                                    go_roundg k2
                                    case measure => have := HK1.out; have := HK2.out; omega
                                    case rel => exact ⟨(y640), (wrap64 (x9_2 + t637)), (wrap64 (x10_2 + 1)), (by first | rfl | (simp; done) | (simp [*]; done)), (by first | rfl | (simp; done) | (simp [*]; done)), H', ⟨by have := HK1.out; have := HK2.out; omega⟩, ⟨by (with_reducible repeat (first | apply Kd.R_alloc | apply Kd.R_drewN | apply Kd.R_drew)); exact Kd.R_mono HO642.out (fun _ hk => trivial)⟩, ⟨by repeat (first | (with_reducible first | exact HB.out | apply below_alloc | apply pw_below_drewN | apply below_drew1 | refine below_set ?_ GE639.out) | exact HB.out)⟩⟩
                                  · rw [if_neg c29] at H
                                    exact absurd H (by simp)
                                · rw [if_neg c28] at H
                                  have c28b0 : (t638 == 0) = false := beq_eq_false_iff_ne.mpr c28
                                  have c28b1 : (t638 != 0) = true := bne_iff_ne.mpr c28
                                  simp only [Option.some.injEq, Prod.mk.injEq] at H
                                  obtain ⟨rfl, rfl⟩ := H
                                  have p628 : 0 ≤ ((ji15) : Int) := of_decide_eq_true (by first | (with_reducible assumption) | assumption)
                                  have q628 : (ji15) < (l1.length : Int) := of_decide_eq_true (by first | (with_reducible assumption) | assumption)
                                  obtain ⟨ad628, e628, hx628_0⟩ := Kd.at_int HR1.out (ji15) p628 q628
                                  cases e628
                                  replace hx628_0 := (HB.out.cell (World.block_lt_of_cell? w _ hx628_0)).trans hx628_0
                                  replace p628 := eq_true p628
                                  replace q628 := eq_true q628
                                  try go_wp2
                                  have n0_ := Aside0.mk (Kd.R_drew HO_8.out)
                                  have n1_ := Aside0.mk (below_drew1 HB.out)
                                  clear HO_8
                                  clear HB
                                  have HO_8 := n0_
                                  have HB := n1_
                                  clear n0_ n1_
                                  have p632 : 0 ≤ (x10_2 : Int) := of_decide_eq_true (by first | (with_reducible assumption) | assumption)
                                  have q632 : x10_2 < (l0.length : Int) := of_decide_eq_true (by first | (with_reducible assumption) | assumption)
                                  obtain ⟨ad632, e632, hx632_0⟩ := Kd.at_int HR0.out x10_2 p632 q632
                                  have hw632_0 := hx632_0
                                  cases e632
                                  replace hx632_0 := (HB.out.cell (World.block_lt_of_cell? w _ hx632_0)).trans hx632_0
                                  replace p632 := eq_true p632
                                  replace q632 := eq_true q632
                                  obtain ⟨i041, hi041, _, hsz41, _⟩ := info_parts info5
                                  obtain ⟨A41, hcut41, hA41, hC41⟩ := print_drop_of (P := Try.prog) (Value.int .u8) 0 22 5 .i64 Try.underlying22 hi041 hsz41 (some ad628) c1 l1 x9_2 (of_decide_eq_true (by first | (with_reducible assumption) | assumption)) (of_decide_eq_true (by first | (with_reducible assumption) | assumption)) HC1.out
                                  have HR633 := Aside0.mk (Kd.C_of_reads (h1 := fun _ => rfl) (hA41 _ (Kd.reads_of_C HR1.out)))
                                  have HC633 := Aside0.mk hC41
                                  clear hA41 hC41 hi041 hsz41
                                  refine start_ (n := 16) (S := fun w' => w'.cell? (ad632.add (x10_2).toNat) = some (.int .u8 (rd l0 x10_2))) (ds := []) #[false, false, false, false, false, false, false, false, false, false, false, false, false, false, false, false] (by kernel_rfl) rfl rfl (((HB.out.cell (World.block_lt_of_cell? w _ hw632_0)).trans hw632_0)) (fun hHeld => ?_); refine with_tabW tidelineref04_Get.tab18 tidelineref04_Get.bits18 (fun HT_ HW_ => ?_)
                                  generalize wr.drew = w40 at HO_8 HB HR633 hx632_0 hHeld ⊢
                                  refine pure_ (i := 0) (N := some 65) (v := ?_) (a' := ?_) #[true, false, false, false, false, false, false, false, false, false, false, false, false, false, false, false] rfl rfl (any_of HT_.out (by kernel_rfl)) (fun _ _ _ h => h) (Or.inl ⟨by rfl, ?_⟩) ?_ ?_
                                  rotate_left
                                  · intro w'
                                    go_simp
                                    with_reducible rfl
                                  rotate_left
                                  · simp only [Act.put, List.setIfInBounds_toArray, List.set_cons_zero, List.set_cons_succ, i64_w, i32_w]
                                    rfl
                                  refine pure_ (i := 1) (N := some 66) (v := ?_) (a' := ?_) #[true, true, false, false, false, false, false, false, false, false, false, false, false, false, false, false] rfl rfl (any_of HT_.out (by kernel_rfl)) (fun _ _ _ h => h) (Or.inl ⟨by rfl, ?_⟩) ?_ ?_
                                  rotate_left
                                  · intro w'
                                    go_simp
                                    with_reducible rfl
                                  rotate_left
                                  · simp only [Act.put, List.setIfInBounds_toArray, List.set_cons_zero, List.set_cons_succ, i64_w, i32_w]
                                    rfl
                                  refine pure_ (i := 2) (N := some 67) (v := ?_) (a' := ?_) #[true, true, true, false, false, false, false, false, false, false, false, false, false, false, false, false] rfl rfl (any_of HT_.out (by kernel_rfl)) (fun _ _ _ h => h) (Or.inl ⟨by rfl, ?_⟩) ?_ ?_
                                  rotate_left
                                  · intro w'
                                    go_simp
                                    with_reducible rfl
                                  rotate_left
                                  · simp only [Act.put, List.setIfInBounds_toArray, List.set_cons_zero, List.set_cons_succ, i64_w, i32_w]
                                    rfl
                                  refine pure_ (i := 4) (N := some 69) (v := ?_) (a' := ?_) #[true, true, true, false, true, false, false, false, false, false, false, false, false, false, false, false] rfl rfl (any_of HT_.out (by kernel_rfl)) (fun _ _ _ h => h) (Or.inl ⟨by rfl, ?_⟩) ?_ ?_
                                  rotate_left
                                  · intro w'
                                    go_simp
                                    with_reducible rfl
                                  rotate_left
                                  · simp only [Act.put, List.setIfInBounds_toArray, List.set_cons_zero, List.set_cons_succ, i64_w, i32_w]
                                    rfl
                                  refine pure_ (i := 5) (N := some 70) (v := ?_) (a' := ?_) #[true, true, true, false, true, true, false, false, false, false, false, false, false, false, false, false] rfl rfl (any_of HT_.out (by kernel_rfl)) (fun _ _ _ h => h) (Or.inl ⟨by rfl, ?_⟩) ?_ ?_
                                  rotate_left
                                  · intro w'
                                    go_simp
                                    with_reducible rfl
                                  rotate_left
                                  · simp only [Act.put, List.setIfInBounds_toArray, List.set_cons_zero, List.set_cons_succ, i64_w, i32_w]
                                    rfl
                                  refine pure_ (i := 6) (N := some 71) (v := ?_) (a' := ?_) #[true, true, true, false, true, true, true, false, false, false, false, false, false, false, false, false] rfl rfl (any_of HT_.out (by kernel_rfl)) (fun _ _ _ h => h) (Or.inl ⟨by rfl, ?_⟩) ?_ ?_
                                  rotate_left
                                  · intro w'
                                    go_simp
                                    with_reducible rfl
                                  rotate_left
                                  · simp only [Act.put, List.setIfInBounds_toArray, List.set_cons_zero, List.set_cons_succ, i64_w, i32_w]
                                    rfl
                                  refine take_ (i := 3) (N := some 68) (v := ?_) (a' := ?_) #[true, true, true, true, true, true, true, false, false, false, false, false, false, false, false, false] rfl rfl (take_ofW HT_.out HW_.out (by kernel_rfl)) (fun _ _ _ h => h) (Or.inl ⟨by rfl, ?_⟩) hHeld ?_ ?_
                                  rotate_left
                                  · intro w' s0
                                    go_simp
                                    with_reducible rfl
                                  rotate_left
                                  · simp only [Act.put, List.setIfInBounds_toArray, List.set_cons_zero, List.set_cons_succ, i64_w, i32_w]
                                    rfl
                                  refine join_ (σ := Nat) 3 #[true, true, true, true, true, true, true, true, true, true, true, true, true, false, false, false] (fun s_ => [(72, .tuple #[.agg #[.int .u8 t634, .int .i64 t635, .string t636], .int .i64 t637, .int .i64 t638]), (11, .pointer (some ⟨s_, 0, none⟩)), (64, .tuple #[.agg #[.int .u8 t634, .int .i64 t635, .string t636], .int .i64 t637, .int .i64 t638]), (73, .agg #[.int .u8 t634, .int .i64 t635, .string t636]), (74, .int .i64 t637), (75, .int .i64 t638)]) (fun s_ w' => (w'.cell? (ad632.add (x10_2).toNat) = some (.int .u8 (rd l0 x10_2))) ∧ (Kd.R k39 39 w' w.heap.size (fun k_ => k_ ≠ s_) u8 x8_2) ∧ (w'.heap[s_]? = some (.cells #[.int .u8 0, .int .i64 0, .string (⟨#[]⟩ : ByteArray)] 39 (0, 0))) ∧ (w.heap.size ≤ s_) ∧ (w.heap.size ≤ s_) ∧ (Below w.heap.size w w')) ?_ ?_
                                  rotate_left
                                  · intro hCont
                                    refine two_ (i := 7) (j := 12) (Ni := some 72) (Nj := some 11) #[true, true, true, true, true, true, true, true, false, false, false, false, false, false, false, false] #[true, true, true, true, true, true, true, false, false, false, false, false, true, false, false, false] rfl rfl rfl rfl (two_of HT_.out (by kernel_rfl)) (by decide) (by decide) (fun K hK => ?_) (fun K hK => ?_)
                                    · skip
                                      refine goes_ Try.func88 (by kernel_rfl) rfl #[.int .u8 (rd l0 x10_2), .slice A41 (l1.drop (x9_2 : Int).toNat).length (c1 - x9_2.toNat)] (by rfl) rfl rfl (by (try simp only [List.map_toArray, List.map_cons, List.map_nil]); first | done | (rw [show (l1.drop (x9_2 : Int).toNat).length = (l1.length - x9_2.toNat) from List.length_drop] <;> rfl) | rfl | (simp only [List.length_drop, List.length_take]; rfl)) ?_
                                      with_reducible refine (tidelineref04_Value.calls k2 (rd l0 x10_2) _ _ (l1.drop (x9_2 : Int).toNat) t634 t635 t636 t637 t638 _ ?side1 ?side2 A27.out).mono ?_
                                      (case side1 => repeat (first | exact (Kd.C_below HR633.out HB.out) | (with_reducible refine Kd.C_alloc ?_ _) | (with_reducible refine Kd.C_drewN ?_ _) | (with_reducible refine Kd.C_drew ?_)))
                                      (case side2 => exact HC633.out)
                                      rintro e w42 ⟨rfl, hb⟩
                                      refine ⟨_, rfl, ?_⟩
                                      have n0_ := Aside0.mk (Kd.R_below (by (with_reducible repeat (first | apply Kd.R_alloc | apply Kd.R_drewN | apply Kd.R_drew)); exact HO_8.out) hb)
                                      have n1_ := Aside0.mk (below_step (by repeat (first | (with_reducible first | exact HB.out | apply below_alloc | apply pw_below_drewN | apply below_drew1) | exact HB.out)) hb)
                                      clear HO_8
                                      clear HB
                                      have HO_8 := n0_
                                      have HB := n1_
                                      clear n0_ n1_
                                      (try clear hb)
                                      (try clear hb2)
                                      (try clear hk)
                                      (try clear hi)
                                      refine hK.out _ _ (((HB.out.cell (World.block_lt_of_cell? w _ hw632_0)).trans hw632_0)) (fun hHeld => ?_)
                                      clear hK K
                                      refine norm_ (a' := ?_) ?_ ?_
                                      rotate_left
                                      · show Act.put _ (some 72) _ = _
                                        simp only [Act.put, List.setIfInBounds_toArray, List.set_cons_zero, List.set_cons_succ, i64_w, i32_w]
                                        rfl
                                      refine pure_ (i := 8) (N := some 64) (v := ?_) (a' := ?_) #[true, true, true, true, true, true, true, true, true, false, false, false, false, false, false, false] rfl rfl (any_of HT_.out (by kernel_rfl)) (fun _ _ _ h => h) (Or.inl ⟨by rfl, ?_⟩) ?_ ?_
                                      rotate_left
                                      · intro w'
                                        go_simp
                                        with_reducible rfl
                                      rotate_left
                                      · simp only [Act.put, List.setIfInBounds_toArray, List.set_cons_zero, List.set_cons_succ, i64_w, i32_w]
                                        rfl
                                      refine pure_ (i := 9) (N := some 73) (v := ?_) (a' := ?_) #[true, true, true, true, true, true, true, true, true, true, false, false, false, false, false, false] rfl rfl (any_of HT_.out (by kernel_rfl)) (fun _ _ _ h => h) (Or.inl ⟨by rfl, ?_⟩) ?_ ?_
                                      rotate_left
                                      · intro w'
                                        go_simp
                                        with_reducible rfl
                                      rotate_left
                                      · simp only [Act.put, List.setIfInBounds_toArray, List.set_cons_zero, List.set_cons_succ, i64_w, i32_w]
                                        rfl
                                      refine pure_ (i := 10) (N := some 74) (v := ?_) (a' := ?_) #[true, true, true, true, true, true, true, true, true, true, true, false, false, false, false, false] rfl rfl (any_of HT_.out (by kernel_rfl)) (fun _ _ _ h => h) (Or.inl ⟨by rfl, ?_⟩) ?_ ?_
                                      rotate_left
                                      · intro w'
                                        go_simp
                                        with_reducible rfl
                                      rotate_left
                                      · simp only [Act.put, List.setIfInBounds_toArray, List.set_cons_zero, List.set_cons_succ, i64_w, i32_w]
                                        rfl
                                      refine pure_ (i := 11) (N := some 75) (v := ?_) (a' := ?_) #[true, true, true, true, true, true, true, true, true, true, true, true, false, false, false, false] rfl rfl (any_of HT_.out (by kernel_rfl)) (fun _ _ _ h => h) (Or.inl ⟨by rfl, ?_⟩) ?_ ?_
                                      rotate_left
                                      · intro w'
                                        go_simp
                                        with_reducible rfl
                                      rotate_left
                                      · simp only [Act.put, List.setIfInBounds_toArray, List.set_cons_zero, List.set_cons_succ, i64_w, i32_w]
                                        rfl
                                      refine one_ (i := 12) (N := some 11) #[true, true, true, true, true, true, true, true, true, true, true, true, true, false, false, false] rfl rfl (one_of HT_.out (by kernel_rfl)) (by decide) (fun K hK => ?_)
                                      refine box_step ?hg (N := 11) ?hd (cs := #[.int .u8 0, .int .i64 0, .string (⟨#[]⟩ : ByteArray)]) (t := 39) ?hr ?_; (case hd => rfl); (case hg => rfl); (case hr => first | (go_simp; done) | (go_simp; rfl))
                                      intro gb639 hg w43 hbox hb
                                      have n0_ := Aside0.mk (Kd.R_below (Kd.R_elderB (by (with_reducible repeat (first | apply Kd.R_alloc | apply Kd.R_drewN | apply Kd.R_drew)); exact HO_8.out) gb639 (Nat.le_of_eq hg.symm)) hb)
                                      have n1_ := Aside0.mk (below_step (by repeat (first | (with_reducible first | exact HB.out | apply below_alloc | apply pw_below_drewN | apply below_drew1) | exact HB.out)) hb)
                                      have n2_ := Aside0.mk (hbox)
                                      have n3_ := Aside0.mk ((by rw [hg]; exact (below_size (by repeat (first | (with_reducible first | exact HB.out | apply below_alloc | apply pw_below_drewN | apply below_drew1) | exact HB.out))) : w.heap.size ≤ gb639))
                                      have n4_ := Aside0.mk ((by rw [hg]; exact (below_size (by repeat (first | (with_reducible first | exact HB.out | apply below_alloc | apply pw_below_drewN | apply below_drew1) | exact HB.out))) : w.heap.size ≤ gb639))
                                      clear HO_8
                                      clear HB
                                      have HO_8 := n0_
                                      have HB := n1_
                                      have BK639 := n2_
                                      have GW639 := n3_
                                      have GE639 := n4_
                                      clear n0_ n1_ n2_ n3_ n4_
                                      clear hb hbox hg
                                      refine hK.out _ _ (((HB.out.cell (World.block_lt_of_cell? w _ hw632_0)).trans hw632_0)) (fun hHeld => ?_)
                                      clear hK K
                                      refine norm_ (a' := ?_) ?_ ?_
                                      rotate_left
                                      · show Act.put _ (some 11) _ = _
                                        simp only [Act.put, List.setIfInBounds_toArray, List.set_cons_zero, List.set_cons_succ, i64_w, i32_w]
                                        rfl
                                      exact norm_ (by simp only [putAll, Act.put, List.setIfInBounds_toArray, List.set_cons_zero, List.set_cons_succ]) (hCont (gb639) _ ⟨hHeld, (by (with_reducible repeat (first | apply Kd.R_alloc | apply Kd.R_drewN | apply Kd.R_drew)); exact Kd.R_mono HO_8.out (fun _ hk => hk.2)), (by (with_reducible repeat (first | refine blk_drewN ?_ _ | refine blk_drew ?_ | refine blk_alloc ?_ _)); exact BK639.out), GW639.out, GE639.out, (by repeat (first | (with_reducible first | exact HB.out | apply below_alloc | apply pw_below_drewN | apply below_drew1 | refine below_set ?_ GE639.out) | exact HB.out))⟩)
                                    · skip
                                      refine box_step ?hg (N := 11) ?hd (cs := #[.int .u8 0, .int .i64 0, .string (⟨#[]⟩ : ByteArray)]) (t := 39) ?hr ?_; (case hd => rfl); (case hg => rfl); (case hr => first | (go_simp; done) | (go_simp; rfl))
                                      intro gb639 hg w42 hbox hb
                                      have n0_ := Aside0.mk (Kd.R_below (Kd.R_elderB (by (with_reducible repeat (first | apply Kd.R_alloc | apply Kd.R_drewN | apply Kd.R_drew)); exact HO_8.out) gb639 (Nat.le_of_eq hg.symm)) hb)
                                      have n1_ := Aside0.mk (below_step (by repeat (first | (with_reducible first | exact HB.out | apply below_alloc | apply pw_below_drewN | apply below_drew1) | exact HB.out)) hb)
                                      have n2_ := Aside0.mk (hbox)
                                      have n3_ := Aside0.mk ((by rw [hg]; exact (below_size (by repeat (first | (with_reducible first | exact HB.out | apply below_alloc | apply pw_below_drewN | apply below_drew1) | exact HB.out))) : w.heap.size ≤ gb639))
                                      have n4_ := Aside0.mk ((by rw [hg]; exact (below_size (by repeat (first | (with_reducible first | exact HB.out | apply below_alloc | apply pw_below_drewN | apply below_drew1) | exact HB.out))) : w.heap.size ≤ gb639))
                                      clear HO_8
                                      clear HB
                                      have HO_8 := n0_
                                      have HB := n1_
                                      have BK639 := n2_
                                      have GW639 := n3_
                                      have GE639 := n4_
                                      clear n0_ n1_ n2_ n3_ n4_
                                      clear hb hbox hg
                                      refine hK.out _ _ (((HB.out.cell (World.block_lt_of_cell? w _ hw632_0)).trans hw632_0)) (fun hHeld => ?_)
                                      clear hK K
                                      refine norm_ (a' := ?_) ?_ ?_
                                      rotate_left
                                      · show Act.put _ (some 11) _ = _
                                        simp only [Act.put, List.setIfInBounds_toArray, List.set_cons_zero, List.set_cons_succ, i64_w, i32_w]
                                        rfl
                                      refine one_ (i := 7) (N := some 72) #[true, true, true, true, true, true, true, true, false, false, false, false, true, false, false, false] rfl rfl (one_of HT_.out (by kernel_rfl)) (by decide) (fun K hK => ?_)
                                      refine goes_ Try.func88 (by kernel_rfl) rfl #[.int .u8 (rd l0 x10_2), .slice A41 (l1.drop (x9_2 : Int).toNat).length (c1 - x9_2.toNat)] (by rfl) rfl rfl (by (try simp only [List.map_toArray, List.map_cons, List.map_nil]); first | done | (rw [show (l1.drop (x9_2 : Int).toNat).length = (l1.length - x9_2.toNat) from List.length_drop] <;> rfl) | rfl | (simp only [List.length_drop, List.length_take]; rfl)) ?_
                                      with_reducible refine (tidelineref04_Value.calls k2 (rd l0 x10_2) _ _ (l1.drop (x9_2 : Int).toNat) t634 t635 t636 t637 t638 _ ?side1 ?side2 A27.out).mono ?_
                                      (case side1 => repeat (first | exact (Kd.C_below HR633.out HB.out) | (with_reducible refine Kd.C_alloc ?_ _) | (with_reducible refine Kd.C_drewN ?_ _) | (with_reducible refine Kd.C_drew ?_)))
                                      (case side2 => exact HC633.out)
                                      rintro e w43 ⟨rfl, hb⟩
                                      refine ⟨_, rfl, ?_⟩
                                      have n0_ := Aside0.mk (Kd.R_below (by (with_reducible repeat (first | apply Kd.R_alloc | apply Kd.R_drewN | apply Kd.R_drew)); exact HO_8.out) hb)
                                      have n1_ := Aside0.mk (blk_below (g := gb639) (o := .cells #[.int .u8 0, .int .i64 0, .string (⟨#[]⟩ : ByteArray)] 39 (0, 0)) (by (with_reducible repeat (first | refine blk_drewN ?_ _ | refine blk_drew ?_ | refine blk_alloc ?_ _)); exact BK639.out) hb)
                                      have n2_ := Aside0.mk (below_step (by repeat (first | (with_reducible first | exact HB.out | apply below_alloc | apply pw_below_drewN | apply below_drew1 | refine below_set ?_ GE639.out) | exact HB.out)) hb)
                                      clear HO_8
                                      clear BK639
                                      clear HB
                                      have HO_8 := n0_
                                      have BK639 := n1_
                                      have HB := n2_
                                      clear n0_ n1_ n2_
                                      (try clear hb)
                                      (try clear hb2)
                                      (try clear hk)
                                      (try clear hi)
                                      refine hK.out _ _ (((HB.out.cell (World.block_lt_of_cell? w _ hw632_0)).trans hw632_0)) (fun hHeld => ?_)
                                      clear hK K
                                      refine norm_ (a' := ?_) ?_ ?_
                                      rotate_left
                                      · show Act.put _ (some 72) _ = _
                                        simp only [Act.put, List.setIfInBounds_toArray, List.set_cons_zero, List.set_cons_succ, i64_w, i32_w]
                                        rfl
                                      refine pure_ (i := 8) (N := some 64) (v := ?_) (a' := ?_) #[true, true, true, true, true, true, true, true, true, false, false, false, true, false, false, false] rfl rfl (any_of HT_.out (by kernel_rfl)) (fun _ _ _ h => h) (Or.inl ⟨by rfl, ?_⟩) ?_ ?_
                                      rotate_left
                                      · intro w'
                                        go_simp
                                        with_reducible rfl
                                      rotate_left
                                      · simp only [Act.put, List.setIfInBounds_toArray, List.set_cons_zero, List.set_cons_succ, i64_w, i32_w]
                                        rfl
                                      refine pure_ (i := 9) (N := some 73) (v := ?_) (a' := ?_) #[true, true, true, true, true, true, true, true, true, true, false, false, true, false, false, false] rfl rfl (any_of HT_.out (by kernel_rfl)) (fun _ _ _ h => h) (Or.inl ⟨by rfl, ?_⟩) ?_ ?_
                                      rotate_left
                                      · intro w'
                                        go_simp
                                        with_reducible rfl
                                      rotate_left
                                      · simp only [Act.put, List.setIfInBounds_toArray, List.set_cons_zero, List.set_cons_succ, i64_w, i32_w]
                                        rfl
                                      refine pure_ (i := 10) (N := some 74) (v := ?_) (a' := ?_) #[true, true, true, true, true, true, true, true, true, true, true, false, true, false, false, false] rfl rfl (any_of HT_.out (by kernel_rfl)) (fun _ _ _ h => h) (Or.inl ⟨by rfl, ?_⟩) ?_ ?_
                                      rotate_left
                                      · intro w'
                                        go_simp
                                        with_reducible rfl
                                      rotate_left
                                      · simp only [Act.put, List.setIfInBounds_toArray, List.set_cons_zero, List.set_cons_succ, i64_w, i32_w]
                                        rfl
                                      refine pure_ (i := 11) (N := some 75) (v := ?_) (a' := ?_) #[true, true, true, true, true, true, true, true, true, true, true, true, true, false, false, false] rfl rfl (any_of HT_.out (by kernel_rfl)) (fun _ _ _ h => h) (Or.inl ⟨by rfl, ?_⟩) ?_ ?_
                                      rotate_left
                                      · intro w'
                                        go_simp
                                        with_reducible rfl
                                      rotate_left
                                      · simp only [Act.put, List.setIfInBounds_toArray, List.set_cons_zero, List.set_cons_succ, i64_w, i32_w]
                                        rfl
                                      exact norm_ (by simp only [putAll, Act.put, List.setIfInBounds_toArray, List.set_cons_zero, List.set_cons_succ]) (hCont (gb639) _ ⟨hHeld, (by (with_reducible repeat (first | apply Kd.R_alloc | apply Kd.R_drewN | apply Kd.R_drew)); exact Kd.R_mono HO_8.out (fun _ hk => hk.2)), (by (with_reducible repeat (first | refine blk_drewN ?_ _ | refine blk_drew ?_ | refine blk_alloc ?_ _)); exact BK639.out), GW639.out, GE639.out, (by repeat (first | (with_reducible first | exact HB.out | apply below_alloc | apply pw_below_drewN | apply below_drew1 | refine below_set ?_ GE639.out) | exact HB.out))⟩)
                                  rintro gb639 w44 ⟨hS_, h0_, h1_, h2_, h3_, h4_⟩
                                  have n0_ : Aside0 (Kd.R k39 39 w44 w.heap.size (fun k_ => k_ ≠ gb639) u8 x8_2) := ⟨h0_⟩
                                  have n1_ : Aside0 (w44.heap[gb639]? = some (.cells #[.int .u8 0, .int .i64 0, .string (⟨#[]⟩ : ByteArray)] 39 (0, 0))) := ⟨h1_⟩
                                  have n2_ : Aside0 (w.heap.size ≤ gb639) := ⟨h2_⟩
                                  have n3_ : Aside0 (w.heap.size ≤ gb639) := ⟨h3_⟩
                                  have n4_ : Aside0 (Below w.heap.size w w44) := ⟨h4_⟩
                                  clear HO_8
                                  clear HB
                                  clear h0_ h1_ h2_ h3_ h4_
                                  have HO_8 := n0_
                                  have BK639 := n1_
                                  have GW639 := n2_
                                  have GE639 := n3_
                                  have HB := n4_
                                  clear n0_ n1_ n2_ n3_ n4_
                                  have hHeld : w44.cell? (ad632.add (x10_2).toNat) = some (.int .u8 (rd l0 x10_2)) := hS_
                                  refine norm_ (a' := ?_) ?_ ?_
                                  rotate_left
                                  · simp only [putAll, Act.put, List.setIfInBounds_toArray, List.set_cons_zero, List.set_cons_succ]
                                    rfl
                                  refine one_ (i := 13) (N := none) #[true, true, true, true, true, true, true, true, true, true, true, true, true, true, false, false] rfl rfl (one_of HT_.out (by kernel_rfl)) (by decide) (fun K hK => ?_)
                                  have hs45 : w44.cell? ⟨gb639, 0, none⟩ = some (.int .u8 0) := (blk_cell BK639.out 0).trans rfl
                                  have hfs45 := blk_frozen BK639.out 0
                                  have hs46 : w44.cell? ⟨gb639, 1, none⟩ = some (.int .i64 0) := (blk_cell BK639.out 1).trans rfl
                                  have hfs46 := blk_frozen BK639.out 1
                                  have hs47 : w44.cell? ⟨gb639, 2, none⟩ = some (.string (⟨#[]⟩ : ByteArray)) := (blk_cell BK639.out 2).trans rfl
                                  have hfs47 := blk_frozen BK639.out 2
                                  refine skip_ (w1 := ?_) (by rfl) rfl ?_ ?_
                                  rotate_left
                                  · go_simp
                                    rfl
                                  refine hK.out _ _ (((cell_far (p := ⟨gb639, _, none⟩) (by first | exact Nat.ne_of_lt (Nat.lt_of_lt_of_le (by have := World.block_lt_of_cell? _ _ hw632_0; first | rwa [add_block] at this | exact this) GW639.out) | (rw [add_block]; exact Nat.ne_of_lt (Nat.lt_of_lt_of_le (by have := World.block_lt_of_cell? _ _ hw632_0; first | rwa [add_block] at this | exact this) GW639.out)) | (show (Addr.add _ _).block ≠ _; rw [add_block]; exact Nat.ne_of_lt (Nat.lt_of_lt_of_le (by have := World.block_lt_of_cell? _ _ hw632_0; first | rwa [add_block] at this | exact this) GW639.out)) | (dsimp only; exact Nat.ne_of_lt (Nat.lt_of_lt_of_le (by have := World.block_lt_of_cell? _ _ hw632_0; first | rwa [add_block] at this | exact this) GW639.out))) _).trans (((cell_far (p := ⟨gb639, _, none⟩) (by first | exact Nat.ne_of_lt (Nat.lt_of_lt_of_le (by have := World.block_lt_of_cell? _ _ hw632_0; first | rwa [add_block] at this | exact this) GW639.out) | (rw [add_block]; exact Nat.ne_of_lt (Nat.lt_of_lt_of_le (by have := World.block_lt_of_cell? _ _ hw632_0; first | rwa [add_block] at this | exact this) GW639.out)) | (show (Addr.add _ _).block ≠ _; rw [add_block]; exact Nat.ne_of_lt (Nat.lt_of_lt_of_le (by have := World.block_lt_of_cell? _ _ hw632_0; first | rwa [add_block] at this | exact this) GW639.out)) | (dsimp only; exact Nat.ne_of_lt (Nat.lt_of_lt_of_le (by have := World.block_lt_of_cell? _ _ hw632_0; first | rwa [add_block] at this | exact this) GW639.out))) _).trans (((cell_far (p := ⟨gb639, _, none⟩) (by first | exact Nat.ne_of_lt (Nat.lt_of_lt_of_le (by have := World.block_lt_of_cell? _ _ hw632_0; first | rwa [add_block] at this | exact this) GW639.out) | (rw [add_block]; exact Nat.ne_of_lt (Nat.lt_of_lt_of_le (by have := World.block_lt_of_cell? _ _ hw632_0; first | rwa [add_block] at this | exact this) GW639.out)) | (show (Addr.add _ _).block ≠ _; rw [add_block]; exact Nat.ne_of_lt (Nat.lt_of_lt_of_le (by have := World.block_lt_of_cell? _ _ hw632_0; first | rwa [add_block] at this | exact this) GW639.out)) | (dsimp only; exact Nat.ne_of_lt (Nat.lt_of_lt_of_le (by have := World.block_lt_of_cell? _ _ hw632_0; first | rwa [add_block] at this | exact this) GW639.out))) _).trans (hHeld))))))) (fun hHeld => ?_)
                                  clear hK K
                                  refine pure_ (i := 14) (N := some 12) (v := ?_) (a' := ?_) #[true, true, true, true, true, true, true, true, true, true, true, true, true, true, true, false] rfl rfl (any_of HT_.out (by kernel_rfl)) (fun _ _ _ h => h) (Or.inl ⟨by rfl, ?_⟩) ?_ ?_
                                  rotate_left
                                  · intro w'
                                    go_simp
                                    with_reducible rfl
                                  rotate_left
                                  · simp only [Act.put, List.setIfInBounds_toArray, List.set_cons_zero, List.set_cons_succ, i64_w, i32_w]
                                    rfl
                                  refine pure_ (i := 15) (N := some 13) (v := ?_) (a' := ?_) #[true, true, true, true, true, true, true, true, true, true, true, true, true, true, true, true] rfl rfl (any_of HT_.out (by kernel_rfl)) (fun _ _ _ h => h) (Or.inl ⟨by rfl, ?_⟩) ?_ ?_
                                  rotate_left
                                  · intro w'
                                    go_simp
                                    with_reducible rfl
                                  rotate_left
                                  · simp only [Act.put, List.setIfInBounds_toArray, List.set_cons_zero, List.set_cons_succ, i64_w, i32_w]
                                    rfl
                                  refine done_ (done_of HT_.out (by kernel_rfl)) ?_
                                  try go_wp2
                                  go_ret2
                                  exact ⟨_, by first | rfl | (simp [errW_none, errW_some] <;> rfl) | (simp only [← hji15, ← hji18, ← hji20]; first | rfl | (simp [errW_none, errW_some] <;> rfl)) | (simp [*, errW_none, errW_some] <;> rfl), by first | exact Kd.R_nil _ _ _ _ _ | exact Kd.N_nil _ _ _ _ _ | exact Kd.V_nil _ _ _ _ _ | exact Kd.Q_nil _ _ _ _ _ | exact Kd.S_nil _ _ _ _ _, by repeat (first | (with_reducible first | exact HB.out | apply below_alloc | apply pw_below_drewN | apply below_drew1 | refine below_set ?_ GE639.out) | exact HB.out)⟩
                              · rw [if_neg c26] at H
                                exact absurd H (by simp)
                            · rw [if_neg c25] at H
                              exact absurd H (by simp)
                          · rw [if_neg c24] at H
                            exact absurd H (by simp)
                      · rw [if_neg c19] at H
                        exact absurd H (by simp)
                    · rw [if_neg c17] at H
                      exact absurd H (by simp)
                  · rw [if_neg c16] at H
                    exact absurd H (by simp)
                · rw [if_neg c14] at H
                  have c14b0 : decide (x10_2 < (l0.length : Int)) = false := decide_eq_false c14
                  clear c14
                  by_cases c48 : x9_2 = (l1.length : Int)
                  · rw [if_pos c48] at H
                    have c48b0 : (x9_2 == (l1.length : Int)) = true := beq_iff_eq.mpr c48
                    have c48b1 : (x9_2 != (l1.length : Int)) = false := bne_eq_false_iff_eq.mpr c48
                    clear c48
                    simp only [Option.some.injEq, Prod.mk.injEq] at H
                    obtain ⟨rfl, rfl⟩ := H
                    go_wp2
                    go_ret2
                    exact ⟨_, by first | rfl | (simp [errW_none, errW_some] <;> rfl) | (simp [*, errW_none, errW_some] <;> rfl), by (with_reducible repeat (first | apply Kd.R_alloc | apply Kd.R_drewN | apply Kd.R_drew)); exact HO_8.out, by repeat (first | (with_reducible first | exact HB.out | apply below_alloc | apply pw_below_drewN | apply below_drew1) | exact HB.out)⟩
                  · rw [if_neg c48] at H
                    have c48b0 : (x9_2 == (l1.length : Int)) = false := beq_eq_false_iff_ne.mpr c48
                    have c48b1 : (x9_2 != (l1.length : Int)) = true := bne_iff_ne.mpr c48
                    simp only [Option.some.injEq, Prod.mk.injEq] at H
                    obtain ⟨rfl, rfl⟩ := H
                    go_wp2
                    go_ret2
                    exact ⟨_, by first | rfl | (simp [errW_none, errW_some] <;> rfl) | (simp [*, errW_none, errW_some] <;> rfl), by first | exact Kd.R_nil _ _ _ _ _ | exact Kd.N_nil _ _ _ _ _ | exact Kd.V_nil _ _ _ _ _ | exact Kd.Q_nil _ _ _ _ _ | exact Kd.S_nil _ _ _ _ _, by repeat (first | (with_reducible first | exact HB.out | apply below_alloc | apply pw_below_drewN | apply below_drew1) | exact HB.out)⟩
  · replace c4 := Bool.eq_false_iff.mpr c4
    subst c4
    have H1 : (some (([] : List (S39)), 1)) = some (r1, r2) := by rw [if_neg (show ¬ (false = true) by decide)] at H; exact H
    clear H
    have H := H1
    clear H1
    simp only [Option.some.injEq, Prod.mk.injEq] at H
    obtain ⟨rfl, rfl⟩ := H
    go_enter Try.func50, Try.ntmps50
    go_wp2_with (first | ((with_reducible refine gate_callee (f := 52) rfl ?_); refine goesL_ (some 15) rfl rfl Try.func52 (by kernel_rfl) rfl #[.slice A0 l0.length c0] rfl (by (try simp only [List.map_toArray, List.map_cons, List.map_nil]); first | done | rfl | (simp only [List.length_drop, List.length_take]; rfl)) ?_; (with_reducible refine (tidelineref04_Types.calls k _ _ l0 false _ ?side1 ?side2 A3.out).mono ?_); (case side1 => repeat (first | exact HR0.out | (with_reducible refine Kd.C_alloc ?_ _) | (with_reducible refine Kd.C_drewN ?_ _) | (with_reducible refine Kd.C_drew ?_))); (case side2 => exact HC0.out); rintro e w' ⟨rfl, ⟨nd, rfl⟩⟩; refine ⟨_, rfl, ?_⟩))
    go_ret2
    exact ⟨_, by first | rfl | (simp [errW_none, errW_some] <;> rfl) | (simp [*, errW_none, errW_some] <;> rfl), by first | exact Kd.R_nil _ _ _ _ _ | exact Kd.N_nil _ _ _ _ _ | exact Kd.V_nil _ _ _ _ _ | exact Kd.Q_nil _ _ _ _ _ | exact Kd.S_nil _ _ _ _ _, by repeat (first | (with_reducible first | exact HB.out | apply below_alloc | apply pw_below_drewN | apply below_drew1) | exact HB.out)⟩

end Go.Proofs.Ytlmcefhpnfoahaa.P
end

section
namespace Go.Proofs.Ytlmcefhpnfoahaa.P
open Go.RowKit Go.Proofs.YtlmcefhpnfoahaaW.PrintWords Go.Proofs.YtlmcefhpnfoahaaW.PrintLast Go.Proofs.YtlmcefhpnfoahaaW.PrintMore
set_option linter.unusedVariables false
set_option linter.unusedSimpArgs false

theorem rd_get {l : List Int} {i : Nat} (h : i < l.length) : rd l (i : Int) = l[i] := by simp [rd, List.getD_eq_getElem?_getD, List.getElem?_eq_getElem h]
/-! #### what row.Put tells is the row's bytes -/
theorem encVals_append (a b : List S39) : encVals (a ++ b) = encVals a ++ encVals b := by unfold encVals; rw [List.flatMap_append]
theorem putN_enc (l : List S39) : ∀ k, k ≤ l.length → putN l k = layN (fun i : Nat => nulV (rd_T39 l i)) l.length k ++ encVals (l.take k) := by
  intro k
  induction k with
  | zero => intro _; simp [putN, layN, encVals]
  | succ k ih =>
    intro hk
    have hlt : k < l.length := by omega
    have hl := layN_length (fun i : Nat => nulV (rd_T39 l i)) l.length k
    unfold putN layN
    rw [ih (by omega), List.take_succ_eq_append_getElem hlt, encVals_append, ← rdT_get hlt]
    unfold putStep
    by_cases h0 : (rd_T39 l k).f0 = 0
    · have hn : nulV (rd_T39 l k) = true := by simp [nulV, h0]
      have he : encVals [rd_T39 l k] = [] := by simp [encVals, h0]
      rw [if_pos h0, hn, he, List.append_nil]
      simp only [if_true]
      exact setBit_append _ _ k (by omega)
    · have hn : nulV (rd_T39 l k) = false := by simp [nulV, h0]
      have he : encVals [rd_T39 l k] = enc1 (rd_T39 l k) := by simp [encVals, h0]
      rw [if_neg h0, hn, he, List.append_assoc]
      rfl
theorem putN_all (l : List S39) : putN l l.length = encRow l := by
  rw [putN_enc l l.length (Nat.le_refl _), List.take_length]
  rfl
theorem fitN_fit : ∀ (t : List Int) (l : List S39), l.length = t.length → fitN t l l.length = fit t l := by
  intro t
  induction t with
  | nil => intro l h; cases l with
    | nil => rfl
    | cons x l => simp at h
  | cons a t ih => intro l h; cases l with
    | nil => simp at h
    | cons x l =>
      unfold fit
      rw [← ih l (by simpa using h)]
      unfold fitN
      rw [List.length_cons, List.range_succ_eq_map, List.all_cons, List.all_map]
      congr 1
theorem fit_len_iff (t : List Int) (l : List S39) : (l.length = t.length ∧ fitN t l l.length = true) ↔ fit t l = true := by
  constructor
  · intro h; rw [← fitN_fit t l h.1]; exact h.2
  · intro h
    have := fit_length t l h
    exact ⟨this, by rw [fitN_fit t l this]; exact h⟩
theorem rowPut_f (t : List Int) (l : List S39) (ht : t.length ≤ 500) (hl : l.length ≤ 64) (hn : l.all okNum = true) (hs : (l.all fun x => decide (x.f2.size ≤ 10000)) = true) : row_Put.f t l = some (putRow t l) := by
  unfold row_Put.f putRow
  rw [if_pos ⟨ht, hl, hn, hs⟩, putN_all]
  congr 1
  by_cases h : knownT t = true ∧ fit t l = true
  · rw [if_pos h, if_pos ⟨h.1, (fit_len_iff t l).mpr h.2⟩]
  · rw [if_neg h, if_neg (fun h2 => h ⟨h2.1, (fit_len_iff t l).mp h2.2⟩)]
theorem rowGet_f (t b : List Int) (ht : t.length ≤ 500) (hb : b.length ≤ 100000) (hy : ∀ x ∈ b, isByte x = true) : row_Get.f t b = some (getRow t b) := by
  unfold row_Get.f
  rw [if_pos ⟨ht, hb, by rw [List.all_eq_true]; exact hy⟩]
/-! #### the reference -/
theorem refTypes_l0 (t : List Int) (hl : t.length ≤ 1000000) : ∀ (d k i : Nat), i + d = t.length → d < k → tidelineref04_Types.l0 k t i = some (knownT (t.drop i)) := by
  intro d
  induction d with
  | zero =>
    intro k i hi hk
    obtain ⟨k, rfl⟩ : ∃ j, k = j + 1 := ⟨k - 1, by omega⟩
    rw [tidelineref04_Types.l0, if_neg (by omega), List.drop_of_length_le (by omega)]
    rfl
  | succ d ih =>
    intro k i hi hk
    obtain ⟨k, rfl⟩ : ∃ j, k = j + 1 := ⟨k - 1, by omega⟩
    have hlt : i < t.length := by omega
    have hd : knownT (t.drop i) = (decide (1 ≤ rd t i) && decide (rd t i ≤ 3) && knownT (t.drop (i + 1))) := by
      rw [List.drop_eq_getElem_cons hlt, rd_get hlt]; rfl
    rw [tidelineref04_Types.l0, if_pos (by omega), if_pos (by omega), w64s i (by omega), ih k (i + 1) (by omega) (by omega), hd]
    by_cases h1 : rd t i = 1
    · rw [if_pos h1, h1]; rfl
    · rw [if_neg h1]
      by_cases h2 : rd t i = 2
      · rw [if_pos h2, h2]; rfl
      · rw [if_neg h2]
        by_cases h3 : rd t i = 3
        · rw [if_pos h3, h3]; rfl
        · rw [if_neg h3]
          have : ¬ (1 ≤ rd t i ∧ rd t i ≤ 3) := by omega
          have e : (decide (1 ≤ rd t i) && decide (rd t i ≤ 3)) = false := by
            rw [Bool.eq_false_iff]; simpa using this
          rw [e]; rfl
theorem refTypes_f (t : List Int) (hl : t.length ≤ 1000000) (k : Nat) (hk : t.length < k) : tidelineref04_Types.f k t = some (knownT t) := by
  have := refTypes_l0 t hl t.length k 0 (by omega) hk
  unfold tidelineref04_Types.f
  simpa using this
theorem refRow_l0 (t : List Int) (l : List S39) (hl : l.length ≤ 1000000) (ht : l.length = t.length) (h0 : ∀ x ∈ l, 0 ≤ x.f0) : ∀ (d k i : Nat), i + d = l.length → d < k → tidelineref04_Row.l0 k t l i = some (fit (t.drop i) (l.drop i)) := by
  intro d
  induction d with
  | zero =>
    intro k i hi hk
    obtain ⟨k, rfl⟩ : ∃ j, k = j + 1 := ⟨k - 1, by omega⟩
    rw [tidelineref04_Row.l0, if_neg (by omega), List.drop_of_length_le (by omega), List.drop_of_length_le (by omega)]
    rfl
  | succ d ih =>
    intro k i hi hk
    obtain ⟨k, rfl⟩ : ∃ j, k = j + 1 := ⟨k - 1, by omega⟩
    have hlt : i < l.length := by omega
    have hlt2 : i < t.length := by omega
    have hd : fit (t.drop i) (l.drop i) = (rowMay (rd t i) (rd_T39 l i) && fit (t.drop (i + 1)) (l.drop (i + 1))) := by
      rw [List.drop_eq_getElem_cons hlt, List.drop_eq_getElem_cons hlt2, rd_get hlt2, rdT_get hlt]; rfl
    have hm := refMay (h0 _ (rdT_mem hlt))
    rw [tidelineref04_Row.l0, if_pos (by omega), if_pos (by omega), hm, Option.bind_some, w64s i (by omega), ih k (i + 1) (by omega) (by omega), hd]
    unfold rowMay
    by_cases h1 : mayB (rd_T39 l i) = true
    · rw [if_pos h1, h1]
      by_cases h2 : (rd_T39 l i).f0 = 0
      · rw [if_pos h2, h2]; rfl
      · rw [if_neg h2, if_pos (by omega)]
        by_cases h3 : (rd_T39 l i).f0 = rd t i
        · rw [if_pos h3, h3]; simp
        · rw [if_neg h3]; simp [h2, h3]
    · rw [if_neg h1]
      simp [h1]
theorem refRow_f (t : List Int) (l : List S39) (hl : l.length ≤ 1000000) (h0 : ∀ x ∈ l, 0 ≤ x.f0) (k : Nat) (hk : l.length < k) : tidelineref04_Row.f k t l = some (fit t l) := by
  unfold tidelineref04_Row.f
  by_cases h : l.length = t.length
  · rw [if_pos (by omega)]
    have := refRow_l0 t l hl h h0 l.length k 0 (by omega) hk
    simpa using this
  · rw [if_neg (by omega)]
    have : fit t l = false := by
      rw [Bool.eq_false_iff]
      intro hf
      exact h (fit_length t l hf)
    rw [this]
theorem shl_bit (i : Nat) (hi : i ≤ 1000000) : shl .u8 1 (Int.tmod (i : Int) 8) = 2 ^ (i % 8) := by
  have e1 : Int.tmod (i : Int) 8 = ((i % 8 : Nat) : Int) := by rw [Int.tmod_eq_emod_of_nonneg (by omega)]; omega
  unfold shl
  rw [e1, Int.toNat_natCast, show IntKind.u8.bits = 8 from rfl, Nat.min_eq_left (by omega), Int.one_mul]
  exact u8_pow (i % 8) (by omega)
theorem shl_bit' (i : Nat) : shl .u8 1 ((i % 8 : Nat) : Int) = 2 ^ (i % 8) := by
  unfold shl
  rw [Int.toNat_natCast, show IntKind.u8.bits = 8 from rfl, Nat.min_eq_left (by omega), Int.one_mul]
  exact u8_pow (i % 8) (by omega)
theorem tdiv8 (i : Nat) (hi : i ≤ 1000000) : wrap64 (Int.tdiv (i : Int) 8) = ((i / 8 : Nat) : Int) := by
  rw [Int.tdiv_eq_ediv_of_nonneg (by omega)]
  unfold wrap64
  omega
theorem tmod8 (i : Nat) : Int.tmod (i : Int) 8 = ((i % 8 : Nat) : Int) := by rw [Int.tmod_eq_emod_of_nonneg (by omega)]; omega
/-- The bit's byte, and the store into it. -/
theorem bitsN_next (p : Nat → Bool) (i : Nat) : bitsN p (i + 1) = if p i then (if i % 8 = 0 then bitsN p i ++ [0] else bitsN p i).set (i / 8) (rd (if i % 8 = 0 then bitsN p i ++ [0] else bitsN p i) ((i / 8 : Nat) : Int) + 2 ^ (i % 8)) else (if i % 8 = 0 then bitsN p i ++ [0] else bitsN p i) := rfl
theorem bitsN_length (p : Nat → Bool) (i : Nat) : (bitsN p i).length = (i + 7) / 8 := by rw [bitsN_lay, lay_length]
theorem bitsN_sum (p : Nat → Bool) (i : Nat) (hp : p i = true) : 0 ≤ rd (if i % 8 = 0 then bitsN p i ++ [0] else bitsN p i) ((i / 8 : Nat) : Int) + 2 ^ (i % 8) ∧ rd (if i % 8 = 0 then bitsN p i ++ [0] else bitsN p i) ((i / 8 : Nat) : Int) + 2 ^ (i % 8) ≤ 255 := by
  have h := bitsN_next p i
  rw [if_pos hp] at h
  have hl := bitsN_length p i
  obtain ⟨M, hM⟩ : ∃ M, M = (if i % 8 = 0 then bitsN p i ++ [0] else bitsN p i) := ⟨_, rfl⟩
  have hMl : i / 8 < M.length := by
    rw [hM]
    by_cases h8 : i % 8 = 0
    · rw [if_pos h8, List.length_append, List.length_singleton]; omega
    · rw [if_neg h8]; omega
  rw [← hM] at h ⊢
  have hb := lay_bytes p (i + 1)
  rw [← bitsN_lay, h] at hb
  have := hb _ (List.mem_set hMl _)
  simpa [isByte] using this
theorem refPut_l1 (l : List S39) (hl : l.length ≤ 64) (hn : ∀ x ∈ l, okNum x = true ∧ x.f2.size ≤ 10000 ∧ (x.f0 = 0 ∨ x.f0 = 1 ∨ x.f0 = 2 ∨ x.f0 = 3)) : ∀ (d k i : Nat) (out : List Int), i + d = l.length → d < k → out.length ≤ 2000 + 10010 * i → tidelineref04_Put.l1 k l out i = some (out ++ encVals (l.drop i), 0) := by
  intro d
  induction d with
  | zero =>
    intro k i out hi hk ho
    obtain ⟨k, rfl⟩ : ∃ j, k = j + 1 := ⟨k - 1, by omega⟩
    rw [tidelineref04_Put.l1, if_neg (by omega), List.drop_of_length_le (by omega)]
    simp [encVals]
  | succ d ih =>
    intro k i out hi hk ho
    obtain ⟨k, rfl⟩ : ∃ j, k = j + 1 := ⟨k - 1, by omega⟩
    have hlt : i < l.length := by omega
    obtain ⟨h1, h2, h3⟩ := hn _ (rdT_mem hlt)
    have hone : tidelineref04_One.f (rd_T39 l i).f0 (rd_T39 l i).f1 (rd_T39 l i).f2 = some (if (rd_T39 l i).f0 = 0 then [] else enc1 (rd_T39 l i)) := by
      unfold tidelineref04_One.f enc1
      rw [if_pos ⟨h1, by omega⟩]
      congr 1
      rcases h3 with h | h | h | h <;> rw [h] <;> simp
    have hlen : (if (rd_T39 l i).f0 = 0 then [] else enc1 (rd_T39 l i)).length ≤ 10010 := by
      split
      · simp
      · exact enc1_len _ h2
    have hd : encVals (l.drop i) = (if (rd_T39 l i).f0 = 0 then [] else enc1 (rd_T39 l i)) ++ encVals (l.drop (i + 1)) := by
      rw [List.drop_eq_getElem_cons hlt, rdT_get hlt]; rfl
    rw [tidelineref04_Put.l1, if_pos (by omega), if_pos (by omega), hone, Option.bind_some, if_pos (by omega), w64s i (by omega), ih k (i + 1) _ (by omega) (by omega) (by rw [List.length_append]; omega), hd, List.append_assoc]
theorem refPut_l0' (l : List S39) (hl : l.length ≤ 64) (hn : ∀ x ∈ l, okNum x = true ∧ x.f2.size ≤ 10000 ∧ (x.f0 = 0 ∨ x.f0 = 1 ∨ x.f0 = 2 ∨ x.f0 = 3)) : ∀ (d k i : Nat), i + d = l.length → d + l.length + 1 < k → tidelineref04_Put.l0 k l (bitsN (fun i : Nat => nulV (rd_T39 l i)) i) i = some (encRow l, 0) := by
  intro d
  induction d with
  | zero =>
    intro k i hi hk
    obtain ⟨k, rfl⟩ : ∃ j, k = j + 1 := ⟨k - 1, by omega⟩
    obtain rfl : i = l.length := by omega
    have hlb := bitsN_length (fun i : Nat => nulV (rd_T39 l i)) l.length
    have h1 := refPut_l1 l hl hn l.length k 0 (bitsN (fun i : Nat => nulV (rd_T39 l i)) l.length) (by omega) (by omega) (by omega)
    rw [tidelineref04_Put.l0, if_neg (by omega)]
    rw [show ((0 : Nat) : Int) = 0 from rfl] at h1
    rw [h1, List.drop_zero, bitsN_lay]
    rfl
  | succ d ih =>
    intro k i hi hk
    obtain ⟨k, rfl⟩ : ∃ j, k = j + 1 := ⟨k - 1, by omega⟩
    have hlt : i < l.length := by omega
    have hlb := bitsN_length (fun i : Nat => nulV (rd_T39 l i)) i
    have hnx := bitsN_next (fun i : Nat => nulV (rd_T39 l i)) i
    have hsum := bitsN_sum (fun i : Nat => nulV (rd_T39 l i)) i
    have hih := ih k (i + 1) (by omega) (by omega)
    obtain ⟨L, hL⟩ : ∃ L, L = bitsN (fun i : Nat => nulV (rd_T39 l i)) i := ⟨_, rfl⟩
    rw [← hL] at hlb hnx hsum ⊢
    rw [hnx] at hih
    rw [tidelineref04_Put.l0, if_pos (by omega), tmod8, tdiv8 i (by omega), w64s i (by omega), shl_bit' i]
    by_cases h8 : i % 8 = 0
    · rw [if_pos (by omega), if_pos (by omega), Option.bind_some, if_pos (by omega)]
      rw [if_pos h8] at hih hsum
      by_cases h0 : (rd_T39 l i).f0 = 0
      · have hp : nulV (rd_T39 l i) = true := by simp [nulV, h0]
        have hs := hsum hp
        rw [if_pos hp] at hih
        rw [if_pos h0, if_pos (by omega), if_pos (by rw [List.length_append, List.length_singleton]; omega), if_pos (by omega), Int.toNat_natCast, Int.emod_eq_of_lt hs.1 (by omega)]
        exact hih
      · have hp : nulV (rd_T39 l i) = false := by simp [nulV, h0]
        rw [hp] at hih
        rw [if_neg h0]
        exact hih
    · rw [if_neg (by omega), if_pos (by omega)]
      rw [if_neg h8] at hih hsum
      by_cases h0 : (rd_T39 l i).f0 = 0
      · have hp : nulV (rd_T39 l i) = true := by simp [nulV, h0]
        have hs := hsum hp
        rw [if_pos hp] at hih
        rw [if_pos h0, if_pos (by omega), if_pos (by omega), if_pos (by omega), Int.toNat_natCast, Int.emod_eq_of_lt hs.1 (by omega)]
        exact hih
      · have hp : nulV (rd_T39 l i) = false := by simp [nulV, h0]
        rw [hp] at hih
        rw [if_neg h0]
        exact hih
theorem fit_kinds : ∀ (t : List Int) (l : List S39), knownT t = true → fit t l = true → ∀ x ∈ l, mayB x = true ∧ (x.f0 = 0 ∨ x.f0 = 1 ∨ x.f0 = 2 ∨ x.f0 = 3) := by
  intro t
  induction t with
  | nil => intro l _ h; cases l with
    | nil => intro x hx; cases hx
    | cons x l => cases h
  | cons a t ih => intro l hk h; cases l with
    | nil => cases h
    | cons y l =>
      obtain ⟨_, hk⟩ := known_cons hk
      unfold fit at h
      rw [Bool.and_eq_true] at h
      intro x hx
      rcases List.mem_cons.mp hx with rfl | hx
      · have h1 := h.1
        unfold rowMay at h1
        rw [Bool.and_eq_true] at h1
        exact ⟨h1.1, mayB_kind x h1.1⟩
      · exact ih l hk h.2 x hx
theorem refPutRow_f (t : List Int) (l : List S39) (ht : t.length ≤ 1000) (hl : l.length ≤ 64) (hn : l.all okNum = true) (hs : (l.all fun x => decide (x.f2.size ≤ 10000)) = true) (h0 : ∀ x ∈ l, 0 ≤ x.f0) (k : Nat) (hk : 2 * l.length + t.length + 5 < k) : tidelineref04_Put.f k t l = some (putRow t l) := by
  unfold tidelineref04_Put.f putRow
  obtain ⟨k, rfl⟩ : ∃ j, k = j + 1 := ⟨k - 1, by omega⟩
  rw [refTypes_f t (by omega) _ (by omega), Option.bind_some]
  by_cases h1 : knownT t = true
  · rw [if_pos h1, refRow_f t l (by omega) h0 _ (by omega), Option.bind_some]
    by_cases h2 : fit t l = true
    · rw [if_pos ⟨h1, h2⟩, h2, tidelineref04_Put.j0, if_neg (by decide)]
      have hk2 := fit_kinds t l h1 h2
      rw [List.all_eq_true] at hn hs
      exact refPut_l0' l hl (fun x hx => ⟨hn x hx, by simpa using hs x hx, (hk2 x hx).2⟩) l.length k 0 (by omega) (by omega)
    · rw [if_neg (fun h => h2 h.2), Bool.eq_false_iff.mpr h2, tidelineref04_Put.j0, if_pos (by decide)]
  · rw [if_neg h1, if_neg (fun h => h1 h.1), tidelineref04_Put.j0, if_pos rfl]
end Go.Proofs.Ytlmcefhpnfoahaa.P
end

section
namespace Go.Proofs.Ytlmcefhpnfoahaa.P
open Go.RowKit Go.Proofs.YtlmcefhpnfoahaaW.PrintWords Go.Proofs.YtlmcefhpnfoahaaW.PrintLast Go.Proofs.YtlmcefhpnfoahaaW.PrintMore
set_option linter.unusedVariables false
set_option linter.unusedSimpArgs false

theorem refGet_k (l : List Int) (hl : l.length ≤ 1000000) (hb : ∀ x ∈ l, isByte x = true) (k : Nat) (hk : 31 ≤ k) : tidelineref02_Get.f k l = some (vget l) :=
  leO_le (g := fun k => tidelineref02_Get.f k l) (tidelineref02_Get.mono l) hk (refGet_f l hl hb)
theorem refPut_k (v : Int) (h0 : 0 ≤ v) (h1 : v ≤ 18446744073709551615) (k : Nat) (hk : 10 ≤ k) : tidelineref02_Put.f k v = some (vput 9 v) :=
  leO_le (g := fun k => tidelineref02_Put.f k v) (tidelineref02_Put.mono v) hk (refPut_f v h0 h1)
theorem refValue_f (t : Int) (l : List Int) (ht : t = 1 ∨ t = 2 ∨ t = 3) (hl : l.length ≤ 1000000) (hb : ∀ x ∈ l, isByte x = true) (k : Nat) (hk : 31 ≤ k) :
    tidelineref04_Value.f k t l = some ((getV t l).1.f0, (getV t l).1.f1, (getV t l).1.f2, (getV t l).2.1, (getV t l).2.2) := by
  unfold tidelineref04_Value.f
  obtain ⟨g1, g2, g3, g4⟩ := vget_range l hb
  by_cases h1 : t = 1
  · rw [if_pos h1]
    unfold getV
    rw [if_pos h1]
    unfold getBool
    by_cases h0 : l.length = 0
    · rw [if_pos (by omega), if_pos h0]; rfl
    · rw [if_neg (by omega), if_neg h0, if_pos (by omega)]
      have hr : 0 ≤ rd l 0 ∧ rd l 0 ≤ 255 := rd_isByte hb 0 (by omega)
      by_cases h2 : rd l 0 > 1
      · rw [if_pos h2, if_pos h2]; rfl
      · rw [if_neg h2, if_neg h2, w64 (by omega) (by omega), h1]
  · rw [if_neg h1, refGet_k l hl hb k hk, Option.bind_some]
    by_cases h2 : t = 2
    · have ev : getV t l = getInt (vget l) (zag (vget l).1) := by unfold getV; rw [if_neg h1, if_pos h2]
      rw [ev]
      unfold getInt
      by_cases he : (vget l).2.2 = 0
      · rw [if_pos he, if_pos h2, refZag_f _ g1 g2, Option.bind_some, if_neg (by omega), h2]
      · rw [if_neg he, if_pos he]; rfl
    · have h3 : t = 3 := by omega
      have ev : getV t l = getText l (vget l) := by unfold getV; rw [if_neg h1, if_neg h2]
      rw [ev]
      unfold getText
      by_cases he : (vget l).2.2 = 0
      · have e1 : wrap64 ((l.length : Int) - (vget l).2.1) = (l.length : Int) - (vget l).2.1 := w64 (by omega) (by omega)
        rw [if_pos he, if_neg h2, if_neg (show ¬ (vget l).2.2 ≠ 0 by omega), e1, uw, Int.emod_eq_of_lt (by omega) (by omega)]
        by_cases hg : (vget l).1 > (l.length : Int) - (vget l).2.1
        · rw [if_pos hg, if_pos hg]; rfl
        · have e2 : wrap64 (vget l).1 = (vget l).1 := w64 (by omega) (by omega)
          have e3 : wrap64 ((vget l).2.1 + (vget l).1) = (vget l).2.1 + (vget l).1 := w64 (by omega) (by omega)
          rw [if_neg hg, if_neg hg, e2, e3, if_pos g3, if_pos (by omega), if_pos (by omega), h3]
      · rw [if_neg he, if_pos he]; rfl
theorem shr_bit (b : List Int) (hb : ∀ x ∈ b, isByte x = true) (i : Nat) : (Int.tmod (shr .u8 (rd b ((i / 8 : Nat) : Int)) ((i % 8 : Nat) : Int)) 2 = 1) ↔ bitAt b i = true := by
  unfold shr bitAt
  rw [Int.toNat_natCast, show IntKind.u8.bits = 8 from rfl, Nat.min_eq_left (by omega)]
  have h0 : 0 ≤ rd b ((i / 8 : Nat) : Int) := by
    obtain ⟨c, _, e⟩ := byte_nat hb (i / 8)
    omega
  have hp : (0 : Int) < 2 ^ (i % 8) := Int.pow_pos (by decide)
  have hd : 0 ≤ rd b ((i / 8 : Nat) : Int) / 2 ^ (i % 8) := Int.ediv_nonneg h0 (by omega)
  rw [Int.tmod_eq_emod_of_nonneg hd, beq_iff_eq]
theorem refGet_l1 (t b : List Int) (ht : t.length ≤ 1000) (hkn : knownT t = true) (hbl : b.length ≤ 1000000) (hb : ∀ x ∈ b, isByte x = true) (hn : (t.length + 7) / 8 ≤ b.length) : ∀ (d k i at_ : Nat) (out : List S39), i + d = t.length → d + 40 ≤ k → at_ ≤ b.length → out.length ≤ i →
    tidelineref04_Get.l1 k t b out at_ i = some (finD out (getVals (bitAt b) (t.drop i) i (b.drop at_))) := by
  intro d
  induction d with
  | zero =>
    intro k i at_ out hi hk ha ho
    obtain ⟨k, rfl⟩ : ∃ j, k = j + 1 := ⟨k - 1, by omega⟩
    rw [tidelineref04_Get.l1, if_neg (by omega), List.drop_of_length_le (by omega)]
    have ev : finD out (getVals (bitAt b) [] i (b.drop at_)) = if (b.drop at_).length > 0 then ([], 21) else (out, 0) := by
      unfold getVals finD
      simp
    rw [ev]
    by_cases he : at_ = b.length
    · rw [if_pos (by omega), if_neg (by rw [List.length_drop]; omega)]
    · rw [if_neg (by omega), if_pos (by rw [List.length_drop]; omega)]
  | succ d ih =>
    intro k i at_ out hi hk ha ho
    obtain ⟨k, rfl⟩ : ∃ j, k = j + 1 := ⟨k - 1, by omega⟩
    have hlt : i < t.length := by omega
    have hdr : t.drop i = rd t i :: t.drop (i + 1) := by rw [List.drop_eq_getElem_cons hlt, rd_get hlt]
    have htk : rd t i = 1 ∨ rd t i = 2 ∨ rd t i = 3 := by
      unfold knownT at hkn
      rw [List.all_eq_true] at hkn
      have h2 := hkn (rd t i) (by rw [rd_get hlt]; exact List.getElem_mem hlt)
      simp only [Bool.and_eq_true, decide_eq_true_eq] at h2
      omega
    rw [tidelineref04_Get.l1, if_pos (by omega), tdiv8 i (by omega), tmod8, if_pos (by omega), if_pos (by omega), if_pos (by omega), hdr, w64s i (by omega)]
    by_cases hbit : bitAt b i = true
    · rw [if_pos ((shr_bit b hb i).mpr hbit), if_pos (by omega), finD_null _ _ _ _ _ _ hbit]
      exact ih k (i + 1) at_ _ (by omega) (by omega) ha (by simp; omega)
    · have hbf : bitAt b i = false := Bool.eq_false_iff.mpr hbit
      have hby : ∀ x ∈ b.drop at_, isByte x = true := fun x hx => hb x (List.mem_of_mem_drop hx)
      have hr := getV_range (rd t i) (b.drop at_) hby
      rw [List.length_drop] at hr
      rw [if_neg (fun h => hbit ((shr_bit b hb i).mp h)), if_pos (by omega), if_pos (by omega), if_pos (by omega), Int.toNat_natCast, refValue_f _ _ htk (by rw [List.length_drop]; omega) hby k (by omega), Option.bind_some]
      dsimp only
      by_cases he : (getV (rd t i) (b.drop at_)).2.2 = 0
      · have e1 : wrap64 ((at_ : Int) + (getV (rd t i) (b.drop at_)).2.1) = ((at_ + (getV (rd t i) (b.drop at_)).2.1.toNat : Nat) : Int) := by unfold wrap64; omega
        rw [if_pos he, if_pos (by omega), finD_val _ _ _ _ _ _ hbf he, e1, List.drop_drop]
        exact ih k (i + 1) _ _ (by omega) (by omega) (by omega) (by simp; omega)
      · rw [if_neg he, finD_err _ _ _ _ _ _ hbf he]
def looseF (b : List Int) (i d : Nat) : Bool := (List.range d).any fun j => bitAt b (i + j)
theorem looseF_succ (b : List Int) (i d : Nat) : looseF b i (d + 1) = (bitAt b i || looseF b (i + 1) d) := by
  unfold looseF
  rw [List.range_succ_eq_map, List.any_cons, List.any_map, Nat.add_zero]
  congr 1
  congr 1
  funext j
  show bitAt b (i + (j + 1)) = bitAt b (i + 1 + j)
  congr 1; omega
theorem refGet_l0 (t b : List Int) (ht : t.length ≤ 1000) (hkn : knownT t = true) (hbl : b.length ≤ 1000000) (hb : ∀ x ∈ b, isByte x = true) (hn : (t.length + 7) / 8 ≤ b.length) : ∀ (d k i : Nat), i + d = 8 * ((t.length + 7) / 8) → d + t.length + 41 ≤ k → t.length ≤ i →
    tidelineref04_Get.l0 k t b (((t.length + 7) / 8 : Nat) : Int) i = some (if looseF b i d = true then ([], 21) else finD [] (getVals (bitAt b) t 0 (b.drop ((t.length + 7) / 8)))) := by
  intro d
  induction d with
  | zero =>
    intro k i hi hk hti
    obtain ⟨k, rfl⟩ : ∃ j, k = j + 1 := ⟨k - 1, by omega⟩
    have e8 : wrap64 (8 * (((t.length + 7) / 8 : Nat) : Int)) = ((8 * ((t.length + 7) / 8) : Nat) : Int) := by unfold wrap64; omega
    rw [tidelineref04_Get.l0, e8, if_neg (by omega), if_neg (show ¬ looseF b i 0 = true by simp [looseF])]
    have := refGet_l1 t b ht hkn hbl hb hn t.length k 0 ((t.length + 7) / 8) [] (by omega) (by omega) hn (by simp)
    rw [List.drop_zero] at this
    exact this
  | succ d ih =>
    intro k i hi hk hti
    obtain ⟨k, rfl⟩ : ∃ j, k = j + 1 := ⟨k - 1, by omega⟩
    have e8 : wrap64 (8 * (((t.length + 7) / 8 : Nat) : Int)) = ((8 * ((t.length + 7) / 8) : Nat) : Int) := by unfold wrap64; omega
    rw [tidelineref04_Get.l0, e8, if_pos (by omega), tdiv8 i (by omega), tmod8, if_pos (by omega), if_pos (by omega), if_pos (by omega), w64s i (by omega), looseF_succ]
    by_cases hbit : bitAt b i = true
    · rw [if_pos ((shr_bit b hb i).mpr hbit), hbit, Bool.true_or, if_pos rfl]
    · rw [if_neg (fun h => hbit ((shr_bit b hb i).mp h)), ih k (i + 1) (by omega) (by omega) (by omega), Bool.eq_false_iff.mpr hbit, Bool.false_or]
theorem refGetRow_f (t b : List Int) (ht : t.length ≤ 1000) (hbl : b.length ≤ 1000000) (hb : ∀ x ∈ b, isByte x = true) (k : Nat) (hk : 2 * t.length + 60 ≤ k) : tidelineref04_Get.f k t b = some (getRow t b) := by
  unfold tidelineref04_Get.f getRow
  have e1 : wrap64 ((t.length : Int) + 7) = ((t.length + 7 : Nat) : Int) := by unfold wrap64; omega
  rw [refTypes_f t (by omega) k (by omega), Option.bind_some, e1, tdiv8 (t.length + 7) (by omega)]
  by_cases h1 : knownT t = true
  · rw [if_pos h1, if_neg (show ¬ knownT t = false by rw [h1]; decide)]
    by_cases h2 : b.length < (t.length + 7) / 8
    · rw [if_pos (by omega), if_pos h2]
    · rw [if_neg (by omega), if_neg h2, refGet_l0 t b ht h1 hbl hb (by omega) (8 * ((t.length + 7) / 8) - t.length) k t.length (by omega) (by omega) (Nat.le_refl _)]
      rfl
  · rw [if_neg h1, if_pos (by simpa using h1)]
/-! #### long -/
theorem long4_l0 (l : List S39) (hl : l.length < 1000000) : ∀ (d k i : Nat), i + d = l.length → d < k → ∃ r, tidelinelaw04_long.l0 k l i = some r ∧ (r = false → ∀ j, i ≤ j → j < l.length → (rd_T39 l j).f2.size ≤ 400) := by
  intro d
  induction d with
  | zero =>
    intro k i hi hk
    obtain ⟨k, rfl⟩ : ∃ j, k = j + 1 := ⟨k - 1, by omega⟩
    rw [tidelinelaw04_long.l0, if_neg (by omega)]
    exact ⟨false, rfl, fun _ j h1 h2 => by omega⟩
  | succ d ih =>
    intro k i hi hk
    obtain ⟨k, rfl⟩ : ∃ j, k = j + 1 := ⟨k - 1, by omega⟩
    rw [tidelinelaw04_long.l0, if_pos (by omega), if_pos (by omega), w64s i (by omega)]
    by_cases h : ((rd_T39 l i).f2.size : Int) > 400
    · rw [if_pos h]; exact ⟨true, rfl, fun h => by cases h⟩
    · rw [if_neg h]
      obtain ⟨r, hr, hp⟩ := ih k (i + 1) (by omega) (by omega)
      refine ⟨r, hr, fun h0 j h1 h2 => ?_⟩
      by_cases hj : j = i
      · subst hj; omega
      · exact hp h0 j (by omega) h2
theorem long4_some (t : List Int) (l : List S39) : ∃ r, tidelinelaw04_long.f 63 t l = some r ∧ (r = false → t.length ≤ 60 ∧ l.length ≤ 60 ∧ ∀ x ∈ l, x.f2.size ≤ 400) := by
  unfold tidelinelaw04_long.f
  by_cases h : (t.length : Int) > 60
  · exact ⟨true, by rw [if_pos h, tidelinelaw04_long.j0, if_pos rfl], fun h => by cases h⟩
  · rw [if_neg h]
    by_cases h2 : (l.length : Int) > 60
    · exact ⟨true, by rw [decide_eq_true h2, tidelinelaw04_long.j0, if_pos rfl], fun h => by cases h⟩
    · obtain ⟨r, hr, hp⟩ := long4_l0 l (by omega) l.length 62 0 (by omega) (by omega)
      refine ⟨r, by rw [decide_eq_false h2, tidelinelaw04_long.j0, if_neg (by decide)]; exact hr, fun h0 => ⟨by omega, by omega, fun x hx => ?_⟩⟩
      obtain ⟨j, hj, e⟩ := List.getElem_of_mem hx
      have := hp h0 j (Nat.zero_le _) hj
      rw [rdT_get hj, e] at this
      exact this
theorem long4_k (t : List Int) (l : List S39) (k : Nat) (hk : 63 ≤ k) : ∃ r, tidelinelaw04_long.f k t l = some r ∧ (r = false → t.length ≤ 60 ∧ l.length ≤ 60 ∧ ∀ x ∈ l, x.f2.size ≤ 400) := by
  obtain ⟨r, h1, h2⟩ := long4_some t l
  exact ⟨r, leO_le (g := fun k => tidelinelaw04_long.f k t l) (tidelinelaw04_long.mono t l) hk h1, h2⟩
theorem same_k (a b : List S39) (hm : a.length ≤ maxLen) (k : Nat) (hk : a.length < k) : ∃ r, tidelineref03_Same.f k a b = some r ∧ (r = true ↔ a = b) := by
  obtain ⟨r, h1, h2⟩ := refSame a b hm
  exact ⟨r, leO_le (g := fun k => tidelineref03_Same.f k a b) (tidelineref03_Same.mono a b) hk h1, h2⟩
theorem same_self_k (a : List S39) (hm : a.length ≤ maxLen) (k : Nat) (hk : a.length < k) : tidelineref03_Same.f k a a = some true := by
  obtain ⟨r, h1, h2⟩ := same_k a a hm k hk
  rw [h1, h2.mpr rfl]
end Go.Proofs.Ytlmcefhpnfoahaa.P
end

section
namespace Go.Proofs.Ytlmcefhpnfoahaa.P
open Go.RowKit Go.Proofs.YtlmcefhpnfoahaaW.PrintWords Go.Proofs.YtlmcefhpnfoahaaW.PrintLast Go.Proofs.YtlmcefhpnfoahaaW.PrintMore
set_option linter.unusedVariables false
set_option linter.unusedSimpArgs false

theorem encVals_bytes (l : List S39) (h : ∀ x ∈ l, okV x) : ∀ c ∈ encVals l, isByte c = true := by
  intro c hc
  unfold encVals at hc
  obtain ⟨x, hx, h2⟩ := List.mem_flatMap.mp hc
  split at h2
  · cases h2
  · exact enc1_bytes x (h x hx).1 (h x hx).2 c h2
theorem encRow_bytes (l : List S39) (h : ∀ x ∈ l, okV x) : ∀ c ∈ encRow l, isByte c = true := by
  intro c hc
  unfold encRow at hc
  rcases List.mem_append.mp hc with hc | hc
  · exact lay_bytes _ _ c hc
  · exact encVals_bytes l h c hc
theorem enc1_len4 (x : S39) (hs : x.f2.size ≤ 400) : (enc1 x).length ≤ 410 := by
  unfold enc1
  split
  · simp
  · split
    · have := vput_length 9 (zig x.f1); omega
    · have := vput_length 9 (x.f2.size : Int); rw [List.length_append, bytesOf_length]; omega
theorem encVals_le (l : List S39) (h : ∀ x ∈ l, x.f2.size ≤ 400) : (encVals l).length ≤ 410 * l.length := by
  induction l with
  | nil => simp [encVals]
  | cons x l ih =>
    have h1 := ih (fun y hy => h y (by simp [hy]))
    have h2 := enc1_len4 x (h x (by simp))
    have e : encVals (x :: l) = (if x.f0 = 0 then [] else enc1 x) ++ encVals l := rfl
    rw [e, List.length_append, List.length_cons]
    split <;> simp <;> omega
theorem encRow_le (l : List S39) (h : ∀ x ∈ l, x.f2.size ≤ 400) : (encRow l).length ≤ (l.length + 7) / 8 + 410 * l.length := by
  have := encVals_le l h
  unfold encRow
  rw [List.length_append, lay_length]
  omega
theorem getRow_nil (t b : List Int) (h : (getRow t b).2 ≠ 0) : (getRow t b).1 = [] := by
  unfold getRow at h ⊢
  split
  · rfl
  · rename_i h1
    rw [if_neg h1] at h
    split
    · rfl
    · rename_i h2
      rw [if_neg h2] at h
      split
      · rfl
      · rename_i h3
        rw [if_neg h3] at h
        split
        · rfl
        · rename_i h4
          rw [if_neg h4] at h
          split
          · rfl
          · rename_i h5
            rw [if_neg h5] at h
            exact absurd rfl h
theorem sizes_all' (l : List S39) (n : Nat) (h : ∀ x ∈ l, x.f2.size ≤ n) : (l.all fun x => decide (x.f2.size ≤ n)) = true := by
  rw [List.all_eq_true]
  intro x hx
  simpa using h x hx
theorem putRow_self (t : List Int) (l : List S39) (hk : knownT t = true) (hf : fit t l = true) : putRow t l = (encRow l, 0) := by unfold putRow; rw [if_pos ⟨hk, hf⟩]
end Go.Proofs.Ytlmcefhpnfoahaa.P
end

section
namespace Go.Proofs.Ytlmcefhpnfoahaa.P
open Go
def headNums : List Nat := [104, 97, 114, 110, 101, 115, 115, 32, 52, 99, 52, 100, 50, 98, 52, 55, 56, 54, 57, 48, 100, 97, 50, 98, 56, 98, 101, 57, 48, 50, 100, 101, 55, 57, 54, 57, 97, 53, 53, 97, 101, 49, 101, 50, 48, 97, 57, 101, 101, 49, 97, 54, 49, 51, 50, 100, 102, 101, 50, 51, 48, 50, 52, 57, 101, 101, 55, 57, 49, 50, 56, 97, 32, 99, 117, 116, 32, 97, 116, 32, 116, 105, 100, 101, 108, 105, 110, 101, 47, 116, 105, 100, 101, 108, 105, 110, 101, 108, 97, 119, 48, 51, 46, 75, 101, 121, 65, 112, 112, 101, 110, 100, 115, 32, 116, 105, 100, 101, 108, 105, 110, 101, 47, 116, 105, 100, 101, 108, 105, 110, 101, 108, 97, 119, 48, 51, 46, 75, 101, 121, 79, 114, 100, 101, 114, 115, 32, 116, 105, 100, 101, 108, 105, 110, 101, 47, 116, 105, 100, 101, 108, 105, 110, 101, 108, 97, 119, 48, 51, 46, 75, 101, 121, 66, 97, 99, 107, 32, 116, 105, 100, 101, 108, 105, 110, 101, 47, 116, 105, 100, 101, 108, 105, 110, 101, 108, 97, 119, 48, 51, 46, 75, 101, 121, 75, 110, 111, 119, 110, 32, 116, 105, 100, 101, 108, 105, 110, 101, 47, 116, 105, 100, 101, 108, 105, 110, 101, 108, 97, 119, 48, 51, 46, 75, 101, 121, 80, 97, 114, 115, 101, 115, 32, 116, 105, 100, 101, 108, 105, 110, 101, 47, 116, 105, 100, 101, 108, 105, 110, 101, 108, 97, 119, 48, 51, 46, 75, 101, 121, 80, 114, 101, 102, 105, 120, 32, 116, 105, 100, 101, 108, 105, 110, 101, 47, 116, 105, 100, 101, 108, 105, 110, 101, 108, 97, 119, 48, 55, 46, 83, 101, 103, 109, 101, 110, 116, 67, 117, 116, 115, 32, 116, 105, 100, 101, 108, 105, 110, 101, 47, 116, 105, 100, 101, 108, 105, 110, 101, 108, 97, 119, 48, 52, 46, 82, 111, 119, 80, 117, 116, 115, 32, 116, 105, 100, 101, 108, 105, 110, 101, 47, 116, 105, 100, 101, 108, 105, 110, 101, 108, 97, 119, 48, 52, 46, 82, 111, 119, 71, 101, 116, 115, 32, 116, 105, 100, 101, 108, 105, 110, 101, 47, 116, 105, 100, 101, 108, 105, 110, 101, 108, 97, 119, 48, 55, 46, 83, 101, 103, 109, 101, 110, 116, 75, 110, 111, 119, 110, 32, 116, 105, 100, 101, 108, 105, 110, 101, 47, 116, 105, 100, 101, 108, 105, 110, 101, 108, 97, 119, 48, 52, 46, 82, 111, 119, 66, 97, 99, 107, 32, 116, 105, 100, 101, 108, 105, 110, 101, 47, 116, 105, 100, 101, 108, 105, 110, 101, 108, 97, 119, 48, 52, 46, 82, 111, 119, 65, 112, 97, 114, 116, 32, 116, 105, 100, 101, 108, 105, 110, 101, 47, 116, 105, 100, 101, 108, 105, 110, 101, 108, 97, 119, 48, 52, 46, 82, 111, 119, 83, 105, 122, 101, 115, 32, 116, 105, 100, 101, 108, 105, 110, 101, 47, 116, 105, 100, 101, 108, 105, 110, 101, 108, 97, 119, 48, 52, 46, 82, 111, 119, 75, 110, 111, 119, 110, 32, 116, 105, 100, 101, 108, 105, 110, 101, 47, 116, 105, 100, 101, 108, 105, 110, 101, 108, 97, 119, 48, 54, 46, 67, 111, 108, 117, 109, 110, 80, 117, 116, 115, 32, 116, 105, 100, 101, 108, 105, 110, 101, 47, 116, 105, 100, 101, 108, 105, 110, 101, 108, 97, 119, 48, 54, 46, 67, 111, 108, 117, 109, 110, 71, 101, 116, 115, 32, 116, 105, 100, 101, 108, 105, 110, 101, 47, 116, 105, 100, 101, 108, 105, 110, 101, 108, 97, 119, 48, 54, 46, 67, 111, 108, 117, 109, 110, 66, 97, 99, 107, 32, 116, 105, 100, 101, 108, 105, 110, 101, 47, 116, 105, 100, 101, 108, 105, 110, 101, 108, 97, 119, 48, 54, 46, 67, 111, 108, 117, 109, 110, 65, 112, 97, 114, 116, 32, 116, 105, 100, 101, 108, 105, 110, 101, 47, 116, 105, 100, 101, 108, 105, 110, 101, 108, 97, 119, 48, 54, 46, 67, 111, 108, 117, 109, 110, 83, 109, 97, 108, 108, 32, 116, 105, 100, 101, 108, 105, 110, 101, 47, 116, 105, 100, 101, 108, 105, 110, 101, 108, 97, 119, 48, 54, 46, 67, 111, 108, 117, 109, 110, 66, 111, 117, 110, 100, 115, 32, 116, 105, 100, 101, 108, 105, 110, 101, 47, 116, 105, 100, 101, 108, 105, 110, 101, 108, 97, 119, 48, 54, 46, 67, 111, 108, 117, 109, 110, 76, 105, 101, 115, 32, 116, 105, 100, 101, 108, 105, 110, 101, 47, 116, 105, 100, 101, 108, 105, 110, 101, 108, 97, 119, 48, 54, 46, 67, 111, 108, 117, 109, 110, 75, 110, 111, 119, 110, 32, 116, 105, 100, 101, 108, 105, 110, 101, 47, 116, 105, 100, 101, 108, 105, 110, 101, 108, 97, 119, 48, 55, 46, 83, 101, 103, 109, 101, 110, 116, 77, 97, 107, 101, 115, 32, 116, 105, 100, 101, 108, 105, 110, 101, 47, 116, 105, 100, 101, 108, 105, 110, 101, 108, 97, 119, 48, 55, 46, 83, 101, 103, 109, 101, 110, 116, 79, 112, 101, 110, 115, 32, 116, 105, 100, 101, 108, 105, 110, 101, 47, 116, 105, 100, 101, 108, 105, 110, 101, 108, 97, 119, 48, 55, 46, 83, 101, 103, 109, 101, 110, 116, 66, 97, 99, 107, 32, 116, 105, 100, 101, 108, 105, 110, 101, 47, 116, 105, 100, 101, 108, 105, 110, 101, 108, 97, 119, 48, 55, 46, 83, 101, 103, 109, 101, 110, 116, 66, 111, 117, 110, 100, 115]
theorem head_text : Try.prog.initOrder = "harness 4c4d2b478690da2b8be902de7969a55ae1e20a9ee1a6132dfe230249ee79128a cut at tideline/tidelinelaw03.KeyAppends tideline/tidelinelaw03.KeyOrders tideline/tidelinelaw03.KeyBack tideline/tidelinelaw03.KeyKnown tideline/tidelinelaw03.KeyParses tideline/tidelinelaw03.KeyPrefix tideline/tidelinelaw07.SegmentCuts tideline/tidelinelaw04.RowPuts tideline/tidelinelaw04.RowGets tideline/tidelinelaw07.SegmentKnown tideline/tidelinelaw04.RowBack tideline/tidelinelaw04.RowApart tideline/tidelinelaw04.RowSizes tideline/tidelinelaw04.RowKnown tideline/tidelinelaw06.ColumnPuts tideline/tidelinelaw06.ColumnGets tideline/tidelinelaw06.ColumnBack tideline/tidelinelaw06.ColumnApart tideline/tidelinelaw06.ColumnSmall tideline/tidelinelaw06.ColumnBounds tideline/tidelinelaw06.ColumnLies tideline/tidelinelaw06.ColumnKnown tideline/tidelinelaw07.SegmentMakes tideline/tidelinelaw07.SegmentOpens tideline/tidelinelaw07.SegmentBack tideline/tidelinelaw07.SegmentBounds" := by kernel_rfl
set_option maxRecDepth 100000 in
theorem head_lit : "harness 4c4d2b478690da2b8be902de7969a55ae1e20a9ee1a6132dfe230249ee79128a cut at tideline/tidelinelaw03.KeyAppends tideline/tidelinelaw03.KeyOrders tideline/tidelinelaw03.KeyBack tideline/tidelinelaw03.KeyKnown tideline/tidelinelaw03.KeyParses tideline/tidelinelaw03.KeyPrefix tideline/tidelinelaw07.SegmentCuts tideline/tidelinelaw04.RowPuts tideline/tidelinelaw04.RowGets tideline/tidelinelaw07.SegmentKnown tideline/tidelinelaw04.RowBack tideline/tidelinelaw04.RowApart tideline/tidelinelaw04.RowSizes tideline/tidelinelaw04.RowKnown tideline/tidelinelaw06.ColumnPuts tideline/tidelinelaw06.ColumnGets tideline/tidelinelaw06.ColumnBack tideline/tidelinelaw06.ColumnApart tideline/tidelinelaw06.ColumnSmall tideline/tidelinelaw06.ColumnBounds tideline/tidelinelaw06.ColumnLies tideline/tidelinelaw06.ColumnKnown tideline/tidelinelaw07.SegmentMakes tideline/tidelinelaw07.SegmentOpens tideline/tidelinelaw07.SegmentBack tideline/tidelinelaw07.SegmentBounds" = String.ofList (headNums.map Char.ofNat) := by kernel_rfl
theorem head_list : Try.prog.initOrder.toList = headNums.map Char.ofNat := by rw [head_text, head_lit, String.toList_ofList]
set_option maxRecDepth 100000 in
theorem head_cut : (behindMainWord (wordsSigns (headNums.map Char.ofNat))).head? = some "cut".toList := by kernel_rfl
theorem head_words : ∃ rest, behindMainWord (wordsSigns Try.prog.initOrder.toList) = "cut".toList :: rest := by
  rw [head_list]
  have h := head_cut
  cases hw : behindMainWord (wordsSigns (headNums.map Char.ofNat)) with
  | nil => rw [hw] at h; cases h
  | cons a r => rw [hw] at h; injection h with h; exact ⟨r, by rw [h]⟩
theorem strip_cut (rest : List (List Char)) : stripLifts liftWords ("cut".toList :: rest) = ([], "cut".toList :: rest) := by kernel_rfl
theorem cut_carried : ("cut".toList == "carried".toList) = false := by kernel_rfl
theorem cut_gc : ("cut".toList == "gc".toList) = false := by kernel_rfl
theorem cut_spec : ("cut".toList == "spec".toList) = false := by kernel_rfl
theorem cut_cut : ("cut".toList == "cut".toList) = true := by kernel_rfl
theorem fact_stops : (Try.prog.stops == []) = true := by kernel_rfl
theorem fact_stopKnobs : (Try.prog.stopKnobs == []) = true := by kernel_rfl
theorem fact_mapsRowed : mapsRowed Try.prog = true := by kernel_rfl
theorem fact_plainKeys : Try.prog.plainKeys = true := by kernel_rfl
theorem fact_stopsHeard : Try.prog.stopsHeard = true := by kernel_rfl
theorem fact_laidOut : laidOutB Try.prog = true := by kernel_rfl
theorem fact_laysLater : Try.prog.laysLater = false := by kernel_rfl
theorem fact_door : Try.prog.doorFits [] = true := by kernel_rfl
/-- The functions without a body. -/
def bare : List String := ["main.main", "gosem.cut", "internal/bytealg.Compare", "(runtime.boundsError).Error", "(runtime.boundsError).RuntimeError", "(runtime.errorString).Error", "(runtime.errorString).RuntimeError", "(runtime.plainError).Error", "(runtime.plainError).RuntimeError", "(runtime.errorAddressString).Error", "(runtime.errorAddressString).RuntimeError", "(*runtime.TypeAssertionError).Error", "(*runtime.TypeAssertionError).RuntimeError", "(*runtime.PanicNilError).Error", "(*runtime.PanicNilError).RuntimeError", "(*internal/abi.Type).Align", "(internal/runtime/maps.unhashableTypeError).Error", "(internal/runtime/maps.unhashableTypeError).RuntimeError", "(tideline/api.Errno).Error", "(internal/abi.Kind).String"]
theorem bare_eq : (Try.prog.funcs.toList.filter (fun fn => fn.body.isNone)).map (fun fn => fn.name) = bare := by kernel_rfl
def reflName (s : String) : Bool := opensWith (nameBytes "reflect.") (nameBytes s) || opensWith (nameBytes "(reflect.") (nameBytes s) || opensWith (nameBytes "(*reflect.") (nameBytes s)
theorem bare0 : reflName "main.main" = false := by kernel_rfl
theorem bare1 : reflName "gosem.cut" = false := by kernel_rfl
theorem bare2 : reflName "internal/bytealg.Compare" = false := by kernel_rfl
theorem bare3 : reflName "(runtime.boundsError).Error" = false := by kernel_rfl
theorem bare4 : reflName "(runtime.boundsError).RuntimeError" = false := by kernel_rfl
theorem bare5 : reflName "(runtime.errorString).Error" = false := by kernel_rfl
theorem bare6 : reflName "(runtime.errorString).RuntimeError" = false := by kernel_rfl
theorem bare7 : reflName "(runtime.plainError).Error" = false := by kernel_rfl
theorem bare8 : reflName "(runtime.plainError).RuntimeError" = false := by kernel_rfl
theorem bare9 : reflName "(runtime.errorAddressString).Error" = false := by kernel_rfl
theorem bare10 : reflName "(runtime.errorAddressString).RuntimeError" = false := by kernel_rfl
theorem bare11 : reflName "(*runtime.TypeAssertionError).Error" = false := by kernel_rfl
theorem bare12 : reflName "(*runtime.TypeAssertionError).RuntimeError" = false := by kernel_rfl
theorem bare13 : reflName "(*runtime.PanicNilError).Error" = false := by kernel_rfl
theorem bare14 : reflName "(*runtime.PanicNilError).RuntimeError" = false := by kernel_rfl
theorem bare15 : reflName "(*internal/abi.Type).Align" = false := by kernel_rfl
theorem bare16 : reflName "(internal/runtime/maps.unhashableTypeError).Error" = false := by kernel_rfl
theorem bare17 : reflName "(internal/runtime/maps.unhashableTypeError).RuntimeError" = false := by kernel_rfl
theorem bare18 : reflName "(tideline/api.Errno).Error" = false := by kernel_rfl
theorem bare19 : reflName "(internal/abi.Kind).String" = false := by kernel_rfl
theorem bare_no : bare.any reflName = false := by
  unfold bare
  simp only [List.any_cons, List.any_nil, bare0, bare1, bare2, bare3, bare4, bare5, bare6, bare7, bare8, bare9, bare10, bare11, bare12, bare13, bare14, bare15, bare16, bare17, bare18, bare19, Bool.or_false]
theorem any_filter_map (l : List Func) (p : Func → Bool) (q : String → Bool) : (l.any fun fn => p fn && q fn.name) = ((l.filter p).map (fun fn => fn.name)).any q := by
  induction l with
  | nil => rfl
  | cons a r ih =>
    rw [List.any_cons, ih, List.filter_cons]
    cases p a <;> simp
theorem fact_reflect : Try.prog.bearsReflect = false := by
  show (Try.prog.funcs.toList.any fun fn => fn.body.isNone && reflName fn.name) = false
  rw [any_filter_map, bare_eq, bare_no]
theorem mayEnter_of (P : Program) (rest : List (List Char)) (h : behindMainWord (wordsSigns P.initOrder.toList) = "cut".toList :: rest) (h1 : P.laysLater = false) (h2 : P.bearsReflect = false) (h3 : P.doorFits [] = true) : P.mayEnter = true := by
  unfold Program.mayEnter
  rw [h]
  dsimp only
  rw [strip_cut, h1, h2, h3]
  simp only [List.head?_cons, Option.some_beq_some, cut_cut, Bool.not_false, Bool.or_true, Bool.and_true, List.contains_nil]
theorem headLifts_of (P : Program) (rest : List (List Char)) (h : behindMainWord (wordsSigns P.initOrder.toList) = "cut".toList :: rest) : P.headLifts = [] := by
  unfold Program.headLifts
  rw [h, strip_cut]
  simp only [List.head?_cons, Option.some_beq_some, cut_cut, if_true]
theorem liftsFinal_of (P : Program) (rest : List (List Char)) (h : behindMainWord (wordsSigns P.initOrder.toList) = "cut".toList :: rest) : P.liftsFinal = false := by
  unfold Program.liftsFinal
  rw [h, headLifts_of P rest h]
  simp only [List.head?_cons, Option.some_beq_some, cut_carried, Bool.false_and, List.contains_nil, Bool.or_false]
theorem make_of (P : Program) (rest : List (List Char)) (h : behindMainWord (wordsSigns P.initOrder.toList) = "cut".toList :: rest) : P.make = some .cut := by
  unfold Program.make
  rw [h]
  simp only [cut_gc, cut_spec, cut_cut, Bool.or_false, Bool.true_or, Bool.false_eq_true, if_false, if_true]
theorem joined_of (P : Program) (f : FuncId) (fn : Func) (s : ChangeSpec) (c : OpenClaim) (h0 : c.wf (OpenSpec.ofChange s) = true) (h1 : laidOutB P = true) (h2 : mapsRowed P = true) (h3 : fn.params.all (P.readableRec ·) = true) (h4 : namedTie P c.named s.vars = true) (h5 : (c.stops == []) = true) (h6 : (P.stops == []) = true) (h7 : (c.knobs == []) = true) (h8 : (P.stopKnobs == []) = true)
    (h9 : (c.inPlace == P.inPlace f) = true) (h10 : (c.unfollowed == P.unfollowed f) = true) (h11 : (c.recurses == P.recurses f) = true) (h12 : (c.named == P.varsNamed f) = true) (h13 : (c.maps == (fn.params.toList ++ s.plain.varTypes P).any (P.mapsRec ·)) = true) (h14 : (c.ifaces == (fn.params.toList ++ s.plain.varTypes P).any (P.ifacesRec ·)) = true) (h15 : (c.mapsOut == P.mapsAmong fn.resultTypes.toList) = true)
    (h16 : (c.loops == (fn.params.toList ++ s.plain.varTypes P).any (P.loopsFrom ·)) = true) (h17 : (c.wideKeys == (fn.params.toList ++ s.plain.varTypes P ++ fn.resultTypes.toList).any (P.wideKeysFrom ·)) = true) (h18 : s.vars.all (P.varReadable ·) = true) (h19 : fn.resultTypes.all (fun t => P.readableRec t && decide (t < P.types.size)) = true) (h20 : (c.ifacesOut == fn.resultTypes.toList.any (P.ifacesRec ·)) = true) (h21 : (c.loopsOut == fn.resultTypes.toList.any (P.loopsFrom ·)) = true)
    (h22 : (c.plainKeys == P.plainKeys) = (c.plainKeys == true)) (h23 : c.plainKeys = true) (h24 : c.shortTexts.isNone = true) (h25 : P.stopsHeard = true) (h26 : P.mayEnter = true) (h27 : (c.lifted == P.liftsFinal) = (c.lifted == false)) (h28 : c.lifted = false) (h29 : (P.make == some c.make) = true)
    (h30 : (c.kinds == (if c.domain.isEmpty then [] else fn.params.toList.map fun t => match P.underlying t with | some (.int k) => some k | _ => none)) = true) (h31 : (c.pinned == c.pinnedBy) = true) (h32 : (c.veiled == (fn.params.toList ++ s.plain.varTypes P ++ fn.resultTypes.toList).any (P.veiledRec ·)) = true) (h33 : c.veiledFits P fn.params.toList (fn.params.toList ++ s.plain.varTypes P ++ fn.resultTypes.toList) = true) : joinedFacts P f fn s c = true := by
  unfold joinedFacts
  rw [h0, h1, h2, h3, h4, h5, h6, h7, h8, h9, h10, h11, h12, h13, h14, h15, h16, h17, h18, h19, h20, h21, h22, h23, h24, h25, h26, h27, h28, h29, h31, h32, h33]
  simp only [Bool.true_and, Bool.and_true, beq_self_eq_true]
  exact h30
theorem fact_mayEnter : Try.prog.mayEnter = true := head_words.elim fun rest h => mayEnter_of Try.prog rest h fact_laysLater fact_reflect fact_door
theorem fact_liftsFinal : Try.prog.liftsFinal = false := head_words.elim fun rest h => liftsFinal_of Try.prog rest h
theorem fact_make : Try.prog.make = some .cut := head_words.elim fun rest h => make_of Try.prog rest h
end Go.Proofs.Ytlmcefhpnfoahaa.P
end
