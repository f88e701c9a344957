/- The row of the law RowSizes: at every input it answers true, and each argument reads behind the call as it did. No condition. -/
import Derived.WalkKit
import Derived.ProofKit
import Derived.OpenShut
import Derived.ShutString
import Derived.ChangeOld
import Derived.Below
import Derived.SizedLaws
import Derived.Test.YtlmcefhpnfoahaaRows
import Derived.Test.YtlmcefhpnfoahaaBROW3
section
namespace Go.Proofs.Ytlmcefhpnfoahaa.P
open Go.RowKit Go.Proofs.YtlmcefhpnfoahaaW.PrintWords Go.Proofs.YtlmcefhpnfoahaaW.PrintLast Go.Proofs.YtlmcefhpnfoahaaW.PrintMore
attribute [local go_sem] max2_int min2_int max_two min_two max_three min_three max_four min_four   -- for this text's walks alone
set_option linter.unusedVariables false
set_option linter.unusedSimpArgs false

/-! ### tidelinelaw04_RowSizes: function 15 -/
def tidelinelaw04_RowSizes.l0 : Nat → List (S39) → List Int → Int → Int → Int → Option (Bool)
  | 0, _, _, _, _, _ => none
  | k + 1, x1, x5, x7, x8, x9 => if x9 < (x1.length : Int) then (if 0 ≤ x9 then (if ((rd_T39 x1 x9).f0) = 1 then (tidelinelaw04_RowSizes.l0 k x1 x5 (wrap64 (x7 + 1)) (wrap64 (x8 + 1)) (wrap64 (x9 + 1))) else (if ((rd_T39 x1 x9).f0) = 2 then (tidelinelaw04_RowSizes.l0 k x1 x5 (wrap64 (x7 + 1)) (wrap64 (x8 + 10)) (wrap64 (x9 + 1))) else (if ((rd_T39 x1 x9).f0) = 3 then (tidelinelaw04_RowSizes.l0 k x1 x5 (wrap64 ((wrap64 (x7 + 1)) + (((rd_T39 x1 x9).f2).size : Int))) (wrap64 ((wrap64 (x8 + 2)) + (((rd_T39 x1 x9).f2).size : Int))) (wrap64 (x9 + 1))) else (tidelinelaw04_RowSizes.l0 k x1 x5 x7 x8 (wrap64 (x9 + 1)))))) else (none)) else (if (x5.length : Int) ≥ x7 then (if (x5.length : Int) ≤ x8 then ((tidelinelaw04_puts.f).bind fun t870 => (some t870)) else (some false)) else (some false))
def tidelinelaw04_RowSizes.f (k : Nat) (l0 : List Int) (l1 : List (S39)) : Option (Bool) := (tidelinelaw04_long.f k l0 l1).bind fun t864 => (if t864 = true then (some true) else ((row_Put.f l0 l1).bind fun bt865 => (if bt865.2 = 0 then (tidelinelaw04_RowSizes.l0 k l1 bt865.1 (wrap64 (Int.tdiv (wrap64 ((l1.length : Int) + 7)) 8)) (wrap64 (Int.tdiv (wrap64 ((l1.length : Int) + 7)) 8)) 0) else (if (bt865.1.length : Int) = 0 then (if bt865.2 = 1 then ((tidelinelaw04_puts.f).bind fun t869 => (some t869)) else (some false)) else (some false)))))
theorem tidelinelaw04_RowSizes.mono_l : ∀ k, (∀ y0 y1 y2 y3 y4, LeO (tidelinelaw04_RowSizes.l0 k y0 y1 y2 y3 y4) (tidelinelaw04_RowSizes.l0 (k + 1) y0 y1 y2 y3 y4))
  | 0 => fun _ _ _ _ _ r h => by simp [tidelinelaw04_RowSizes.l0] at h
  | k + 1 => by
    have ih0 := tidelinelaw04_RowSizes.mono_l k
    · intro y0 y1 y2 y3 y4
      unfold tidelinelaw04_RowSizes.l0
      repeat' first
      | (with_reducible exact ih0 _ _ _ _ _)
      | (with_reducible exact tidelinelaw04_long.mono _ _ _)
      | (with_reducible exact LeO.refl _)
      | (with_reducible exact LeO.none _)
      | (with_reducible refine LeO.ite ?_ ?_)
      | (with_reducible refine LeO.bind ?_ (fun _ => ?_))
      | exact ih0 _ _ _ _ _
      | exact tidelinelaw04_long.mono _ _ _
      | exact LeO.none _
      | refine LeO.ite ?_ ?_
      | refine LeO.bind ?_ (fun _ => ?_)
theorem tidelinelaw04_RowSizes.mono : ∀ a0 a1 k, LeO (tidelinelaw04_RowSizes.f k a0 a1) (tidelinelaw04_RowSizes.f (k + 1) a0 a1) := by
  intro a0 a1 k
  have ih0 := tidelinelaw04_RowSizes.mono_l k
  unfold tidelinelaw04_RowSizes.f
  repeat' first
      | (with_reducible exact ih0 _ _ _ _ _)
      | (with_reducible exact tidelinelaw04_long.mono _ _ _)
      | (with_reducible exact LeO.refl _)
      | (with_reducible exact LeO.none _)
      | (with_reducible refine LeO.ite ?_ ?_)
      | (with_reducible refine LeO.bind ?_ (fun _ => ?_))
      | exact ih0 _ _ _ _ _
      | exact tidelinelaw04_long.mono _ _ _
      | exact LeO.none _
      | refine LeO.ite ?_ ?_
      | refine LeO.bind ?_ (fun _ => ?_)
set_option maxHeartbeats 8000000 in
set_option maxRecDepth 100000 in
theorem tidelinelaw04_RowSizes.calls (k : Nat) (A0 : Option Addr) (c0 : Nat) (l0 : List Int) (A1 : Option Addr) (c1 : Nat) (l1 : List (S39)) (r : Bool) (w : World) (hr0 : Kd.C (Kd.int .u8) w A0 l0.length l0) (hc0 : l0.length ≤ c0) (hr1 : Kd.C k39 w A1 l1.length l1) (hc1 : l1.length ≤ c1) (h : tidelinelaw04_RowSizes.f k l0 l1 = some r) :
    Calls Try.prog 15 #[.slice A0 l0.length c0, .slice A1 l1.length c1] w fun e w' => e = .returned (.bool r) ∧ Below w.heap.size w w' := by
  have HR0 := Aside0.mk hr0
  have HC0 := Aside0.mk hc0
  clear hr0 hc0
  have HR1 := Aside0.mk hr1
  have HC1 := Aside0.mk hc1
  clear hr1 hc1
  have HB := Aside0.mk (Below.refl w.heap.size w)
  have H : ((tidelinelaw04_long.f k l0 l1).bind fun t864 => (if t864 = true then (some true) else ((row_Put.f l0 l1).bind fun bt865 => (if bt865.2 = 0 then (tidelinelaw04_RowSizes.l0 k l1 bt865.1 (wrap64 (Int.tdiv (wrap64 ((l1.length : Int) + 7)) 8)) (wrap64 (Int.tdiv (wrap64 ((l1.length : Int) + 7)) 8)) 0) else (if (bt865.1.length : Int) = 0 then (if bt865.2 = 1 then ((tidelinelaw04_puts.f).bind fun t869 => (some t869)) else (some false)) else (some false)))))) = some r := h
  clear h
  replace H := Option.bind_eq_some_iff.mp H
  obtain ⟨t864, A30, H⟩ := H
  replace H : (if t864 = true then (some true) else ((row_Put.f l0 l1).bind fun bt865 => (if bt865.2 = 0 then (tidelinelaw04_RowSizes.l0 k l1 bt865.1 (wrap64 (Int.tdiv (wrap64 ((l1.length : Int) + 7)) 8)) (wrap64 (Int.tdiv (wrap64 ((l1.length : Int) + 7)) 8)) 0) else (if (bt865.1.length : Int) = 0 then (if bt865.2 = 1 then ((tidelinelaw04_puts.f).bind fun t869 => (some t869)) else (some false)) else (some false))))) = some r := H
  have A3 := Aside0.mk A30
  clear A30
  by_cases c4 : t864 = true
  · subst c4
    have H1 : (some true) = some r := by rw [if_pos rfl] at H; exact H
    clear H
    have H := H1
    clear H1
    obtain rfl := Option.some.inj H
    go_enter Try.func15, Try.ntmps15
    go_wp2_with (first | ((with_reducible refine gate_callee (f := 45) rfl ?_); refine goesL_ (some 12) rfl rfl Try.func45 (by kernel_rfl) rfl #[.slice A0 l0.length c0, .slice A1 l1.length c1] rfl (by (try simp only [List.map_toArray, List.map_cons, List.map_nil]); first | done | rfl | (simp only [List.length_drop, List.length_take]; rfl)) ?_; (with_reducible refine (tidelinelaw04_long.calls k _ _ l0 _ _ l1 true _ ?side1 ?side2 ?side3 ?side4 A3.out).mono ?_); (case side1 => repeat (first | exact HR0.out | (with_reducible refine Kd.C_alloc ?_ _) | (with_reducible refine Kd.C_drewN ?_ _) | (with_reducible refine Kd.C_drew ?_))); (case side2 => exact HC0.out); (case side3 => repeat (first | exact HR1.out | (with_reducible refine Kd.C_alloc ?_ _) | (with_reducible refine Kd.C_drewN ?_ _) | (with_reducible refine Kd.C_drew ?_))); (case side4 => exact HC1.out); rintro e w' ⟨rfl, ⟨nd, rfl⟩⟩; refine ⟨_, rfl, ?_⟩))
    go_ret
    exact ⟨by first | rfl | (simp [errW_none, errW_some] <;> rfl) | (simp [*, errW_none, errW_some] <;> rfl), by repeat (first | (with_reducible first | exact HB.out | apply below_alloc | apply pw_below_drewN | apply below_drew1) | exact HB.out)⟩
  · replace c4 := Bool.eq_false_iff.mpr c4
    subst c4
    have H1 : ((row_Put.f l0 l1).bind fun bt865 => (if bt865.2 = 0 then (tidelinelaw04_RowSizes.l0 k l1 bt865.1 (wrap64 (Int.tdiv (wrap64 ((l1.length : Int) + 7)) 8)) (wrap64 (Int.tdiv (wrap64 ((l1.length : Int) + 7)) 8)) 0) else (if (bt865.1.length : Int) = 0 then (if bt865.2 = 1 then ((tidelinelaw04_puts.f).bind fun t869 => (some t869)) else (some false)) else (some false)))) = some r := by rw [if_neg (show ¬ (false = true) by decide)] at H; exact H
    clear H
    have H := H1
    clear H1
    replace H := Option.bind_eq_some_iff.mp H
    obtain ⟨⟨t865, t866⟩, A50, H⟩ := H
    replace H : (if t866 = 0 then (tidelinelaw04_RowSizes.l0 k l1 t865 (wrap64 (Int.tdiv (wrap64 ((l1.length : Int) + 7)) 8)) (wrap64 (Int.tdiv (wrap64 ((l1.length : Int) + 7)) 8)) 0) else (if (t865.length : Int) = 0 then (if t866 = 1 then ((tidelinelaw04_puts.f).bind fun t869 => (some t869)) else (some false)) else (some false))) = some r := H
    have A5 := Aside0.mk A50
    clear A50
    by_cases c6 : t866 = 0
    · rw [if_pos c6] at H
      have c6b0 : (t866 == 0) = true := beq_iff_eq.mpr c6
      have c6b1 : (t866 != 0) = false := bne_eq_false_iff_eq.mpr c6
      clear c6
      have H' := Aside0.mk H
      clear H
      go_enter Try.func15, Try.ntmps15
      go_wp2_with (first | ((with_reducible refine gate_callee (f := 45) rfl ?_); refine goesL_ (some 12) rfl rfl Try.func45 (by kernel_rfl) rfl #[.slice A0 l0.length c0, .slice A1 l1.length c1] rfl (by (try simp only [List.map_toArray, List.map_cons, List.map_nil]); first | done | rfl | (simp only [List.length_drop, List.length_take]; rfl)) ?_; (with_reducible refine (tidelinelaw04_long.calls k _ _ l0 _ _ l1 false _ ?side1 ?side2 ?side3 ?side4 A3.out).mono ?_); (case side1 => repeat (first | exact HR0.out | (with_reducible refine Kd.C_alloc ?_ _) | (with_reducible refine Kd.C_drewN ?_ _) | (with_reducible refine Kd.C_drew ?_))); (case side2 => exact HC0.out); (case side3 => repeat (first | exact HR1.out | (with_reducible refine Kd.C_alloc ?_ _) | (with_reducible refine Kd.C_drewN ?_ _) | (with_reducible refine Kd.C_drew ?_))); (case side4 => exact HC1.out); rintro e w' ⟨rfl, ⟨nd, rfl⟩⟩; refine ⟨_, rfl, ?_⟩) | ((with_reducible refine gate_callee (f := 46) rfl ?_); refine goesL_ (some 16) rfl rfl Try.func46 (by kernel_rfl) rfl #[.slice A0 l0.length c0, .slice A1 l1.length c1] rfl (by (try simp only [List.map_toArray, List.map_cons, List.map_nil]); first | done | rfl | (simp only [List.length_drop, List.length_take]; rfl)) ?_; (with_reducible refine (row_Put.calls _ _ l0 _ _ l1 t865 t866 _ ?side1 ?side2 ?side3 ?side4 A5.out).mono ?_); (case side1 => repeat (first | exact HR0.out | (with_reducible refine Kd.C_alloc ?_ _) | (with_reducible refine Kd.C_drewN ?_ _) | (with_reducible refine Kd.C_drew ?_))); (case side2 => exact HC0.out); (case side3 => repeat (first | exact HR1.out | (with_reducible refine Kd.C_alloc ?_ _) | (with_reducible refine Kd.C_drewN ?_ _) | (with_reducible refine Kd.C_drew ?_))); (case side4 => exact HC1.out); rintro e w7 ⟨v867, rfl, ho0, hb⟩; refine ⟨_, rfl, ?_⟩; have n0_ := Aside0.mk (Kd.R_lower ho0 (below_size (by repeat (first | (with_reducible first | exact HB.out | apply below_alloc | apply pw_below_drewN | apply below_drew1) | exact HB.out)))); have n1_ := Aside0.mk (below_step (by repeat (first | (with_reducible first | exact HB.out | apply below_alloc | apply pw_below_drewN | apply below_drew1) | exact HB.out)) hb); clear HB; have HO868 := n0_; have HB := n1_; clear n0_ n1_; (try clear hb); (try clear hb2); (try clear hk); (try clear hi); (try clear ho0)))
      go_loopg [7, 8, 9] k (fun kq v7 v8 v9 w' => ∃ (x7_1 : Int) (x8_1 : Int) (x9_1 : Int), v7 = .int .i64 x7_1 ∧ v8 = .int .i64 x8_1 ∧ v9 = .int .i64 x9_1 ∧ Aside0 (tidelinelaw04_RowSizes.l0 kq l1 t865 x7_1 x8_1 x9_1 = some r) ∧ Aside0 (kq ≤ k) ∧ Aside0 (Kd.R (Kd.int .u8) 5 w' w.heap.size (fun _ => True) v867 t865) ∧ Aside0 (Below w.heap.size w w'))
      case atStart => exact ⟨(wrap64 (Int.tdiv (wrap64 ((l1.length : Int) + 7)) 8)), (wrap64 (Int.tdiv (wrap64 ((l1.length : Int) + 7)) 8)), (0), (by first | rfl | (simp; done) | (simp [*]; done)), (by first | rfl | (simp; done) | (simp [*]; done)), (by first | rfl | (simp; done) | (simp [*]; done)), H', ⟨Nat.le_refl _⟩, ⟨by (with_reducible repeat (first | apply Kd.R_alloc | apply Kd.R_drewN | apply Kd.R_drew)); exact HO868.out⟩, ⟨by repeat (first | (with_reducible first | exact HB.out | apply below_alloc | apply pw_below_drewN | apply below_drew1) | exact HB.out)⟩⟩
      case round =>
        clear H'
        try clear c1
        try clear p2
        try clear c4
        try clear c6
        try clear c6b0
        try clear c6b1
        try clear p6
        obtain ⟨x7_1, x8_1, x9_1, rfl, rfl, rfl, HA, HK1, HO_5, HB⟩ := hrel
        cases gk with
        | zero => exact absurd HA.out (by simp [tidelinelaw04_RowSizes.l0])
        | succ k1 =>
          have H := HA.out
          clear HA
          simp only [tidelinelaw04_RowSizes.l0] at H
          by_cases c8 : x9_1 < (l1.length : Int)
          · rw [if_pos c8] at H
            have c8b0 : decide (x9_1 < (l1.length : Int)) = true := decide_eq_true c8
            clear c8
            by_cases c9 : 0 ≤ x9_1
            · rw [if_pos c9] at H
              have c9b0 : decide (0 ≤ x9_1) = true := decide_eq_true c9
              clear c9
              by_cases c10 : ((rd_T39 l1 x9_1).f0) = 1
              · rw [if_pos c10] at H
                have c10b0 : (((rd_T39 l1 x9_1).f0) == 1) = true := beq_iff_eq.mpr c10
                have c10b1 : (((rd_T39 l1 x9_1).f0) != 1) = false := bne_eq_false_iff_eq.mpr c10
                clear c10
                have H' := Aside0.mk H
                clear H
                have p871 : 0 ≤ (x9_1 : Int) := of_decide_eq_true (by first | (with_reducible assumption) | assumption)
                have q871 : x9_1 < (l1.length : Int) := of_decide_eq_true (by first | (with_reducible assumption) | assumption)
                obtain ⟨ad871, e871, hx871_0, hx871_1, hx871_2⟩ := at_T39 HR1.out x9_1 p871 q871
                cases e871
                replace hx871_0 := (HB.out.cell (World.block_lt_of_cell? w _ hx871_0)).trans hx871_0
                replace hx871_1 := (HB.out.cell (World.block_lt_of_cell? w _ hx871_1)).trans hx871_1
                replace hx871_2 := (HB.out.cell (World.block_lt_of_cell? w _ hx871_2)).trans hx871_2
                replace p871 := eq_true p871
                replace q871 := eq_true q871
                go_wp2
                go_roundg k1
                case measure => have := HK1.out; omega
                case rel => exact ⟨(wrap64 (x7_1 + 1)), (wrap64 (x8_1 + 1)), (wrap64 (x9_1 + 1)), (by first | rfl | (simp; done) | (simp [*]; done)), (by first | rfl | (simp; done) | (simp [*]; done)), (by first | rfl | (simp; done) | (simp [*]; done)), H', ⟨by have := HK1.out; omega⟩, ⟨by (with_reducible repeat (first | apply Kd.R_alloc | apply Kd.R_drewN | apply Kd.R_drew)); exact HO_5.out⟩, ⟨by repeat (first | (with_reducible first | exact HB.out | apply below_alloc | apply pw_below_drewN | apply below_drew1) | exact HB.out)⟩⟩
              · rw [if_neg c10] at H
                have c10b0 : (((rd_T39 l1 x9_1).f0) == 1) = false := beq_eq_false_iff_ne.mpr c10
                have c10b1 : (((rd_T39 l1 x9_1).f0) != 1) = true := bne_iff_ne.mpr c10
                by_cases c11 : ((rd_T39 l1 x9_1).f0) = 2
                · rw [if_pos c11] at H
                  have c11b0 : (((rd_T39 l1 x9_1).f0) == 2) = true := beq_iff_eq.mpr c11
                  have c11b1 : (((rd_T39 l1 x9_1).f0) != 2) = false := bne_eq_false_iff_eq.mpr c11
                  clear c11
                  have H' := Aside0.mk H
                  clear H
                  have p871 : 0 ≤ (x9_1 : Int) := of_decide_eq_true (by first | (with_reducible assumption) | assumption)
                  have q871 : x9_1 < (l1.length : Int) := of_decide_eq_true (by first | (with_reducible assumption) | assumption)
                  obtain ⟨ad871, e871, hx871_0, hx871_1, hx871_2⟩ := at_T39 HR1.out x9_1 p871 q871
                  cases e871
                  replace hx871_0 := (HB.out.cell (World.block_lt_of_cell? w _ hx871_0)).trans hx871_0
                  replace hx871_1 := (HB.out.cell (World.block_lt_of_cell? w _ hx871_1)).trans hx871_1
                  replace hx871_2 := (HB.out.cell (World.block_lt_of_cell? w _ hx871_2)).trans hx871_2
                  replace p871 := eq_true p871
                  replace q871 := eq_true q871
                  go_wp2
                  go_roundg k1
                  case measure => have := HK1.out; omega
                  case rel => exact ⟨(wrap64 (x7_1 + 1)), (wrap64 (x8_1 + 10)), (wrap64 (x9_1 + 1)), (by first | rfl | (simp; done) | (simp [*]; done)), (by first | rfl | (simp; done) | (simp [*]; done)), (by first | rfl | (simp; done) | (simp [*]; done)), H', ⟨by have := HK1.out; omega⟩, ⟨by (with_reducible repeat (first | apply Kd.R_alloc | apply Kd.R_drewN | apply Kd.R_drew)); exact HO_5.out⟩, ⟨by repeat (first | (with_reducible first | exact HB.out | apply below_alloc | apply pw_below_drewN | apply below_drew1) | exact HB.out)⟩⟩
                · rw [if_neg c11] at H
                  have c11b0 : (((rd_T39 l1 x9_1).f0) == 2) = false := beq_eq_false_iff_ne.mpr c11
                  have c11b1 : (((rd_T39 l1 x9_1).f0) != 2) = true := bne_iff_ne.mpr c11
                  by_cases c12 : ((rd_T39 l1 x9_1).f0) = 3
                  · rw [if_pos c12] at H
                    have c12b0 : (((rd_T39 l1 x9_1).f0) == 3) = true := beq_iff_eq.mpr c12
                    have c12b1 : (((rd_T39 l1 x9_1).f0) != 3) = false := bne_eq_false_iff_eq.mpr c12
                    clear c12
                    have H' := Aside0.mk H
                    clear H
                    have p871 : 0 ≤ (x9_1 : Int) := of_decide_eq_true (by first | (with_reducible assumption) | assumption)
                    have q871 : x9_1 < (l1.length : Int) := of_decide_eq_true (by first | (with_reducible assumption) | assumption)
                    obtain ⟨ad871, e871, hx871_0, hx871_1, hx871_2⟩ := at_T39 HR1.out x9_1 p871 q871
                    cases e871
                    replace hx871_0 := (HB.out.cell (World.block_lt_of_cell? w _ hx871_0)).trans hx871_0
                    replace hx871_1 := (HB.out.cell (World.block_lt_of_cell? w _ hx871_1)).trans hx871_1
                    replace hx871_2 := (HB.out.cell (World.block_lt_of_cell? w _ hx871_2)).trans hx871_2
                    replace p871 := eq_true p871
                    replace q871 := eq_true q871
                    have p872 : 0 ≤ (x9_1 : Int) := of_decide_eq_true (by first | (with_reducible assumption) | assumption)
                    have q872 : x9_1 < (l1.length : Int) := of_decide_eq_true (by first | (with_reducible assumption) | assumption)
                    obtain ⟨ad872, e872, hx872_0, hx872_1, hx872_2⟩ := at_T39 HR1.out x9_1 p872 q872
                    obtain rfl : ad871 = ad872 := (by injection e872)
                    replace hx872_0 := (HB.out.cell (World.block_lt_of_cell? w _ hx872_0)).trans hx872_0
                    replace hx872_1 := (HB.out.cell (World.block_lt_of_cell? w _ hx872_1)).trans hx872_1
                    replace hx872_2 := (HB.out.cell (World.block_lt_of_cell? w _ hx872_2)).trans hx872_2
                    replace p872 := eq_true p872
                    replace q872 := eq_true q872
                    have p873 : 0 ≤ (x9_1 : Int) := of_decide_eq_true (by first | (with_reducible assumption) | assumption)
                    have q873 : x9_1 < (l1.length : Int) := of_decide_eq_true (by first | (with_reducible assumption) | assumption)
                    obtain ⟨ad873, e873, hx873_0, hx873_1, hx873_2⟩ := at_T39 HR1.out x9_1 p873 q873
                    obtain rfl : ad871 = ad873 := (by injection e873)
                    replace hx873_0 := (HB.out.cell (World.block_lt_of_cell? w _ hx873_0)).trans hx873_0
                    replace hx873_1 := (HB.out.cell (World.block_lt_of_cell? w _ hx873_1)).trans hx873_1
                    replace hx873_2 := (HB.out.cell (World.block_lt_of_cell? w _ hx873_2)).trans hx873_2
                    replace p873 := eq_true p873
                    replace q873 := eq_true q873
                    go_wp2
                    go_roundg k1
                    case measure => have := HK1.out; omega
                    case rel => exact ⟨(wrap64 ((wrap64 (x7_1 + 1)) + (((rd_T39 l1 x9_1).f2).size : Int))), (wrap64 ((wrap64 (x8_1 + 2)) + (((rd_T39 l1 x9_1).f2).size : Int))), (wrap64 (x9_1 + 1)), (by first | rfl | (simp; done) | (simp [*]; done)), (by first | rfl | (simp; done) | (simp [*]; done)), (by first | rfl | (simp; done) | (simp [*]; done)), H', ⟨by have := HK1.out; omega⟩, ⟨by (with_reducible repeat (first | apply Kd.R_alloc | apply Kd.R_drewN | apply Kd.R_drew)); exact HO_5.out⟩, ⟨by repeat (first | (with_reducible first | exact HB.out | apply below_alloc | apply pw_below_drewN | apply below_drew1) | exact HB.out)⟩⟩
                  · rw [if_neg c12] at H
                    have c12b0 : (((rd_T39 l1 x9_1).f0) == 3) = false := beq_eq_false_iff_ne.mpr c12
                    have c12b1 : (((rd_T39 l1 x9_1).f0) != 3) = true := bne_iff_ne.mpr c12
                    have H' := Aside0.mk H
                    clear H
                    have p871 : 0 ≤ (x9_1 : Int) := of_decide_eq_true (by first | (with_reducible assumption) | assumption)
                    have q871 : x9_1 < (l1.length : Int) := of_decide_eq_true (by first | (with_reducible assumption) | assumption)
                    obtain ⟨ad871, e871, hx871_0, hx871_1, hx871_2⟩ := at_T39 HR1.out x9_1 p871 q871
                    cases e871
                    replace hx871_0 := (HB.out.cell (World.block_lt_of_cell? w _ hx871_0)).trans hx871_0
                    replace hx871_1 := (HB.out.cell (World.block_lt_of_cell? w _ hx871_1)).trans hx871_1
                    replace hx871_2 := (HB.out.cell (World.block_lt_of_cell? w _ hx871_2)).trans hx871_2
                    replace p871 := eq_true p871
                    replace q871 := eq_true q871
                    go_wp2
                    go_roundg k1
                    case measure => have := HK1.out; omega
                    case rel => exact ⟨(x7_1), (x8_1), (wrap64 (x9_1 + 1)), (by first | rfl | (simp; done) | (simp [*]; done)), (by first | rfl | (simp; done) | (simp [*]; done)), (by first | rfl | (simp; done) | (simp [*]; done)), H', ⟨by have := HK1.out; omega⟩, ⟨by (with_reducible repeat (first | apply Kd.R_alloc | apply Kd.R_drewN | apply Kd.R_drew)); exact HO_5.out⟩, ⟨by repeat (first | (with_reducible first | exact HB.out | apply below_alloc | apply pw_below_drewN | apply below_drew1) | exact HB.out)⟩⟩
            · rw [if_neg c9] at H
              exact absurd H (by simp)
          · rw [if_neg c8] at H
            have c8b0 : decide (x9_1 < (l1.length : Int)) = false := decide_eq_false c8
            clear c8
            by_cases c13 : (t865.length : Int) ≥ x7_1
            · rw [if_pos c13] at H
              have c13b0 : decide (x7_1 ≤ (t865.length : Int)) = true := decide_eq_true c13
              clear c13
              by_cases c14 : (t865.length : Int) ≤ x8_1
              · rw [if_pos c14] at H
                have c14b0 : decide ((t865.length : Int) ≤ x8_1) = true := decide_eq_true c14
                clear c14
                replace H := Option.bind_eq_some_iff.mp H
                obtain ⟨t870, A150, H⟩ := H
                replace H : (some t870) = some r := H
                have A15 := Aside0.mk A150
                clear A150
                obtain rfl := Option.some.inj H
                obtain ⟨Ao16, co16, eo16⟩ := Kd.R_slice HO_5.out
                subst eo16
                go_wp2_with (first | (go_at_call 48; (with_reducible refine (tidelinelaw04_puts.calls  t870 _ A15.out).mono ?_); rintro e w17 ⟨rfl, hb⟩; have n0_ := Aside0.mk (Kd.R_below (by (with_reducible repeat (first | apply Kd.R_alloc | apply Kd.R_drewN | apply Kd.R_drew)); exact HO_5.out) hb); have n1_ := Aside0.mk (below_step (by repeat (first | (with_reducible first | exact HB.out | apply below_alloc | apply pw_below_drewN | apply below_drew1) | exact HB.out)) hb); clear HO_5; clear HB; have HO_5 := n0_; have HB := n1_; clear n0_ n1_; (try clear hb); (try clear hb2); (try clear hk); (try clear hi)))
                go_ret
                exact ⟨by first | rfl | (simp [errW_none, errW_some] <;> rfl) | (simp [*, errW_none, errW_some] <;> rfl), by repeat (first | (with_reducible first | exact HB.out | apply below_alloc | apply pw_below_drewN | apply below_drew1) | exact HB.out)⟩
              · rw [if_neg c14] at H
                have c14b0 : decide ((t865.length : Int) ≤ x8_1) = false := decide_eq_false c14
                clear c14
                obtain rfl := Option.some.inj H
                obtain ⟨Ao18, co18, eo18⟩ := Kd.R_slice HO_5.out
                subst eo18
                go_wp2
                go_ret
                exact ⟨by first | rfl | (simp [errW_none, errW_some] <;> rfl) | (simp [*, errW_none, errW_some] <;> rfl), by repeat (first | (with_reducible first | exact HB.out | apply below_alloc | apply pw_below_drewN | apply below_drew1) | exact HB.out)⟩
            · rw [if_neg c13] at H
              have c13b0 : decide (x7_1 ≤ (t865.length : Int)) = false := decide_eq_false c13
              clear c13
              obtain rfl := Option.some.inj H
              obtain ⟨Ao19, co19, eo19⟩ := Kd.R_slice HO_5.out
              subst eo19
              go_wp2
              go_ret
              exact ⟨by first | rfl | (simp [errW_none, errW_some] <;> rfl) | (simp [*, errW_none, errW_some] <;> rfl), by repeat (first | (with_reducible first | exact HB.out | apply below_alloc | apply pw_below_drewN | apply below_drew1) | exact HB.out)⟩
    · rw [if_neg c6] at H
      have c6b0 : (t866 == 0) = false := beq_eq_false_iff_ne.mpr c6
      have c6b1 : (t866 != 0) = true := bne_iff_ne.mpr c6
      by_cases c20 : (t865.length : Int) = 0
      · rw [if_pos c20] at H
        have c20b0 : ((t865.length : Int) == 0) = true := beq_iff_eq.mpr c20
        have c20b1 : ((t865.length : Int) != 0) = false := bne_eq_false_iff_eq.mpr c20
        clear c20
        by_cases c21 : t866 = 1
        · rw [if_pos c21] at H
          have c21b0 : (t866 == 1) = true := beq_iff_eq.mpr c21
          have c21b1 : (t866 != 1) = false := bne_eq_false_iff_eq.mpr c21
          clear c21
          replace H := Option.bind_eq_some_iff.mp H
          obtain ⟨t869, A220, H⟩ := H
          replace H : (some t869) = some r := H
          have A22 := Aside0.mk A220
          clear A220
          obtain rfl := Option.some.inj H
          go_enter Try.func15, Try.ntmps15
          go_wp2_with (first | ((with_reducible refine gate_callee (f := 45) rfl ?_); refine goesL_ (some 12) rfl rfl Try.func45 (by kernel_rfl) rfl #[.slice A0 l0.length c0, .slice A1 l1.length c1] rfl (by (try simp only [List.map_toArray, List.map_cons, List.map_nil]); first | done | rfl | (simp only [List.length_drop, List.length_take]; rfl)) ?_; (with_reducible refine (tidelinelaw04_long.calls k _ _ l0 _ _ l1 false _ ?side1 ?side2 ?side3 ?side4 A3.out).mono ?_); (case side1 => repeat (first | exact HR0.out | (with_reducible refine Kd.C_alloc ?_ _) | (with_reducible refine Kd.C_drewN ?_ _) | (with_reducible refine Kd.C_drew ?_))); (case side2 => exact HC0.out); (case side3 => repeat (first | exact HR1.out | (with_reducible refine Kd.C_alloc ?_ _) | (with_reducible refine Kd.C_drewN ?_ _) | (with_reducible refine Kd.C_drew ?_))); (case side4 => exact HC1.out); rintro e w' ⟨rfl, ⟨nd, rfl⟩⟩; refine ⟨_, rfl, ?_⟩) | ((with_reducible refine gate_callee (f := 46) rfl ?_); refine goesL_ (some 16) rfl rfl Try.func46 (by kernel_rfl) rfl #[.slice A0 l0.length c0, .slice A1 l1.length c1] rfl (by (try simp only [List.map_toArray, List.map_cons, List.map_nil]); first | done | rfl | (simp only [List.length_drop, List.length_take]; rfl)) ?_; (with_reducible refine (row_Put.calls _ _ l0 _ _ l1 t865 t866 _ ?side1 ?side2 ?side3 ?side4 A5.out).mono ?_); (case side1 => repeat (first | exact HR0.out | (with_reducible refine Kd.C_alloc ?_ _) | (with_reducible refine Kd.C_drewN ?_ _) | (with_reducible refine Kd.C_drew ?_))); (case side2 => exact HC0.out); (case side3 => repeat (first | exact HR1.out | (with_reducible refine Kd.C_alloc ?_ _) | (with_reducible refine Kd.C_drewN ?_ _) | (with_reducible refine Kd.C_drew ?_))); (case side4 => exact HC1.out); rintro e w23 ⟨v867, rfl, ho0, hb⟩; refine ⟨_, rfl, ?_⟩; have n0_ := Aside0.mk (Kd.R_lower ho0 (below_size (by repeat (first | (with_reducible first | exact HB.out | apply below_alloc | apply pw_below_drewN | apply below_drew1) | exact HB.out)))); have n1_ := Aside0.mk (below_step (by repeat (first | (with_reducible first | exact HB.out | apply below_alloc | apply pw_below_drewN | apply below_drew1) | exact HB.out)) hb); clear HB; have HO868 := n0_; have HB := n1_; clear n0_ n1_; (try clear hb); (try clear hb2); (try clear hk); (try clear hi); (try clear ho0); obtain ⟨Ao24, co24, eo24⟩ := Kd.R_slice HO868.out; subst eo24) | (go_at_call 48; (with_reducible refine (tidelinelaw04_puts.calls  t869 _ A22.out).mono ?_); rintro e w25 ⟨rfl, hb⟩; have n0_ := Aside0.mk (Kd.R_below (by (with_reducible repeat (first | apply Kd.R_alloc | apply Kd.R_drewN | apply Kd.R_drew)); exact HO868.out) hb); have n1_ := Aside0.mk (below_step (by repeat (first | (with_reducible first | exact HB.out | apply below_alloc | apply pw_below_drewN | apply below_drew1) | exact HB.out)) hb); clear HO868; clear HB; have HO868 := n0_; have HB := n1_; clear n0_ n1_; (try clear hb); (try clear hb2); (try clear hk); (try clear hi)))
          go_ret
          exact ⟨by first | rfl | (simp [errW_none, errW_some] <;> rfl) | (simp [*, errW_none, errW_some] <;> rfl), by repeat (first | (with_reducible first | exact HB.out | apply below_alloc | apply pw_below_drewN | apply below_drew1) | exact HB.out)⟩
        · rw [if_neg c21] at H
          have c21b0 : (t866 == 1) = false := beq_eq_false_iff_ne.mpr c21
          have c21b1 : (t866 != 1) = true := bne_iff_ne.mpr c21
          obtain rfl := Option.some.inj H
          go_enter Try.func15, Try.ntmps15
          go_wp2_with (first | ((with_reducible refine gate_callee (f := 45) rfl ?_); refine goesL_ (some 12) rfl rfl Try.func45 (by kernel_rfl) rfl #[.slice A0 l0.length c0, .slice A1 l1.length c1] rfl (by (try simp only [List.map_toArray, List.map_cons, List.map_nil]); first | done | rfl | (simp only [List.length_drop, List.length_take]; rfl)) ?_; (with_reducible refine (tidelinelaw04_long.calls k _ _ l0 _ _ l1 false _ ?side1 ?side2 ?side3 ?side4 A3.out).mono ?_); (case side1 => repeat (first | exact HR0.out | (with_reducible refine Kd.C_alloc ?_ _) | (with_reducible refine Kd.C_drewN ?_ _) | (with_reducible refine Kd.C_drew ?_))); (case side2 => exact HC0.out); (case side3 => repeat (first | exact HR1.out | (with_reducible refine Kd.C_alloc ?_ _) | (with_reducible refine Kd.C_drewN ?_ _) | (with_reducible refine Kd.C_drew ?_))); (case side4 => exact HC1.out); rintro e w' ⟨rfl, ⟨nd, rfl⟩⟩; refine ⟨_, rfl, ?_⟩) | ((with_reducible refine gate_callee (f := 46) rfl ?_); refine goesL_ (some 16) rfl rfl Try.func46 (by kernel_rfl) rfl #[.slice A0 l0.length c0, .slice A1 l1.length c1] rfl (by (try simp only [List.map_toArray, List.map_cons, List.map_nil]); first | done | rfl | (simp only [List.length_drop, List.length_take]; rfl)) ?_; (with_reducible refine (row_Put.calls _ _ l0 _ _ l1 t865 t866 _ ?side1 ?side2 ?side3 ?side4 A5.out).mono ?_); (case side1 => repeat (first | exact HR0.out | (with_reducible refine Kd.C_alloc ?_ _) | (with_reducible refine Kd.C_drewN ?_ _) | (with_reducible refine Kd.C_drew ?_))); (case side2 => exact HC0.out); (case side3 => repeat (first | exact HR1.out | (with_reducible refine Kd.C_alloc ?_ _) | (with_reducible refine Kd.C_drewN ?_ _) | (with_reducible refine Kd.C_drew ?_))); (case side4 => exact HC1.out); rintro e w26 ⟨v867, rfl, ho0, hb⟩; refine ⟨_, rfl, ?_⟩; have n0_ := Aside0.mk (Kd.R_lower ho0 (below_size (by repeat (first | (with_reducible first | exact HB.out | apply below_alloc | apply pw_below_drewN | apply below_drew1) | exact HB.out)))); have n1_ := Aside0.mk (below_step (by repeat (first | (with_reducible first | exact HB.out | apply below_alloc | apply pw_below_drewN | apply below_drew1) | exact HB.out)) hb); clear HB; have HO868 := n0_; have HB := n1_; clear n0_ n1_; (try clear hb); (try clear hb2); (try clear hk); (try clear hi); (try clear ho0); obtain ⟨Ao27, co27, eo27⟩ := Kd.R_slice HO868.out; subst eo27))
          go_ret
          exact ⟨by first | rfl | (simp [errW_none, errW_some] <;> rfl) | (simp [*, errW_none, errW_some] <;> rfl), by repeat (first | (with_reducible first | exact HB.out | apply below_alloc | apply pw_below_drewN | apply below_drew1) | exact HB.out)⟩
      · rw [if_neg c20] at H
        have c20b0 : ((t865.length : Int) == 0) = false := beq_eq_false_iff_ne.mpr c20
        have c20b1 : ((t865.length : Int) != 0) = true := bne_iff_ne.mpr c20
        have c20b2 : ¬ (t865 = []) := fun h_ => c20 (by rw [h_]; rfl)
        obtain rfl := Option.some.inj H
        go_enter Try.func15, Try.ntmps15
        go_wp2_with (first | ((with_reducible refine gate_callee (f := 45) rfl ?_); refine goesL_ (some 12) rfl rfl Try.func45 (by kernel_rfl) rfl #[.slice A0 l0.length c0, .slice A1 l1.length c1] rfl (by (try simp only [List.map_toArray, List.map_cons, List.map_nil]); first | done | rfl | (simp only [List.length_drop, List.length_take]; rfl)) ?_; (with_reducible refine (tidelinelaw04_long.calls k _ _ l0 _ _ l1 false _ ?side1 ?side2 ?side3 ?side4 A3.out).mono ?_); (case side1 => repeat (first | exact HR0.out | (with_reducible refine Kd.C_alloc ?_ _) | (with_reducible refine Kd.C_drewN ?_ _) | (with_reducible refine Kd.C_drew ?_))); (case side2 => exact HC0.out); (case side3 => repeat (first | exact HR1.out | (with_reducible refine Kd.C_alloc ?_ _) | (with_reducible refine Kd.C_drewN ?_ _) | (with_reducible refine Kd.C_drew ?_))); (case side4 => exact HC1.out); rintro e w' ⟨rfl, ⟨nd, rfl⟩⟩; refine ⟨_, rfl, ?_⟩) | ((with_reducible refine gate_callee (f := 46) rfl ?_); refine goesL_ (some 16) rfl rfl Try.func46 (by kernel_rfl) rfl #[.slice A0 l0.length c0, .slice A1 l1.length c1] rfl (by (try simp only [List.map_toArray, List.map_cons, List.map_nil]); first | done | rfl | (simp only [List.length_drop, List.length_take]; rfl)) ?_; (with_reducible refine (row_Put.calls _ _ l0 _ _ l1 t865 t866 _ ?side1 ?side2 ?side3 ?side4 A5.out).mono ?_); (case side1 => repeat (first | exact HR0.out | (with_reducible refine Kd.C_alloc ?_ _) | (with_reducible refine Kd.C_drewN ?_ _) | (with_reducible refine Kd.C_drew ?_))); (case side2 => exact HC0.out); (case side3 => repeat (first | exact HR1.out | (with_reducible refine Kd.C_alloc ?_ _) | (with_reducible refine Kd.C_drewN ?_ _) | (with_reducible refine Kd.C_drew ?_))); (case side4 => exact HC1.out); rintro e w28 ⟨v867, rfl, ho0, hb⟩; refine ⟨_, rfl, ?_⟩; have n0_ := Aside0.mk (Kd.R_lower ho0 (below_size (by repeat (first | (with_reducible first | exact HB.out | apply below_alloc | apply pw_below_drewN | apply below_drew1) | exact HB.out)))); have n1_ := Aside0.mk (below_step (by repeat (first | (with_reducible first | exact HB.out | apply below_alloc | apply pw_below_drewN | apply below_drew1) | exact HB.out)) hb); clear HB; have HO868 := n0_; have HB := n1_; clear n0_ n1_; (try clear hb); (try clear hb2); (try clear hk); (try clear hi); (try clear ho0); obtain ⟨Ao29, co29, eo29⟩ := Kd.R_slice HO868.out; subst eo29))
        go_ret
        exact ⟨by first | rfl | (simp [errW_none, errW_some] <;> rfl) | (simp [*, errW_none, errW_some] <;> rfl), by repeat (first | (with_reducible first | exact HB.out | apply below_alloc | apply pw_below_drewN | apply below_drew1) | exact HB.out)⟩

end Go.Proofs.Ytlmcefhpnfoahaa.P
end

section
namespace Go.Proofs.Ytlmcefhpnfoahaa.P
open Go.RowKit Go.Proofs.YtlmcefhpnfoahaaW.PrintWords Go.Proofs.YtlmcefhpnfoahaaW.PrintLast Go.Proofs.YtlmcefhpnfoahaaW.PrintMore
set_option linter.unusedVariables false
set_option linter.unusedSimpArgs false

theorem w64_two (p : Nat) (h : p ≤ 1000000000) : wrap64 ((p : Int) + 2) = ((p + 2 : Nat) : Int) := w64 (by omega) (by omega)
theorem w64_seven (p : Nat) (h : p ≤ 1000000000) : wrap64 ((p : Int) + 7) = ((p + 7 : Nat) : Int) := w64 (by omega) (by omega)
theorem w64_ten (p : Nat) (h : p ≤ 1000000000) : wrap64 ((p : Int) + 10) = ((p + 10 : Nat) : Int) := w64 (by omega) (by omega)
theorem w64_more (p n : Nat) (h : p + n ≤ 1000000000) : wrap64 ((p : Int) + (n : Int)) = ((p + n : Nat) : Int) := w64 (by omega) (by omega)
theorem vput_small (v : Int) (h0 : 0 ≤ v) (h1 : v < 16384) : (vput 9 v).length ≤ 2 := by
  unfold vput
  split
  · unfold vput
    rw [if_neg (by omega)]
    simp
  · simp
/-- The least and the most bytes of values. -/
def leastOf (x : S39) : Nat := if x.f0 = 1 then 1 else if x.f0 = 2 then 1 else if x.f0 = 3 then 1 + x.f2.size else 0
def mostOf (x : S39) : Nat := if x.f0 = 1 then 1 else if x.f0 = 2 then 10 else if x.f0 = 3 then 2 + x.f2.size else 0
def sumOf (f : S39 → Nat) (l : List S39) : Nat := l.foldr (fun x n => f x + n) 0
theorem enc1_sizes (x : S39) (hm : mayB x = true) (h0 : x.f0 ≠ 0) (hs : x.f2.size ≤ 400) : leastOf x ≤ (enc1 x).length ∧ (enc1 x).length ≤ mostOf x := by
  rcases mayB_kind x hm with h | h | h | h
  · exact absurd h h0
  · have a1 : leastOf x = 1 := by unfold leastOf; rw [if_pos h]
    have a2 : mostOf x = 1 := by unfold mostOf; rw [if_pos h]
    have a3 : enc1 x = [x.f1 % 256] := by unfold enc1; rw [if_pos h]
    rw [a1, a2, a3]
    simp
  · have a1 : leastOf x = 1 := by unfold leastOf; rw [if_neg (by omega), if_pos h]
    have a2 : mostOf x = 10 := by unfold mostOf; rw [if_neg (by omega), if_pos h]
    have a3 : enc1 x = vput 9 (zig x.f1) := by unfold enc1; rw [if_neg (by omega), if_pos h]
    have := vput_pos 9 (zig x.f1)
    have := vput_length 9 (zig x.f1)
    rw [a1, a2, a3]
    omega
  · have a1 : leastOf x = 1 + x.f2.size := by unfold leastOf; rw [if_neg (by omega), if_neg (by omega), if_pos h]
    have a2 : mostOf x = 2 + x.f2.size := by unfold mostOf; rw [if_neg (by omega), if_neg (by omega), if_pos h]
    have a3 : enc1 x = vput 9 x.f2.size ++ bytesOf x.f2 := by unfold enc1; rw [if_neg (by omega), if_neg (by omega)]
    have := vput_pos 9 (x.f2.size : Int)
    have := vput_small (x.f2.size : Int) (by omega) (by omega)
    rw [a1, a2, a3, List.length_append, bytesOf_length]
    omega
theorem encVals_sizes : ∀ (l : List S39), (∀ x ∈ l, mayB x = true ∧ x.f2.size ≤ 400) → sumOf leastOf l ≤ (encVals l).length ∧ (encVals l).length ≤ sumOf mostOf l := by
  intro l
  induction l with
  | nil => intro _; exact ⟨Nat.le_refl _, Nat.le_refl _⟩
  | cons x l ih =>
    intro h
    obtain ⟨h1, h2⟩ := ih (fun y hy => h y (by simp [hy]))
    obtain ⟨hm, hs⟩ := h x (by simp)
    have e : encVals (x :: l) = (if x.f0 = 0 then [] else enc1 x) ++ encVals l := rfl
    have e1 : sumOf leastOf (x :: l) = leastOf x + sumOf leastOf l := rfl
    have e2 : sumOf mostOf (x :: l) = mostOf x + sumOf mostOf l := rfl
    rw [e, e1, e2, List.length_append]
    by_cases h0 : x.f0 = 0
    · have a1 : leastOf x = 0 := by unfold leastOf; rw [if_neg (by omega), if_neg (by omega), if_neg (by omega)]
      have a2 : mostOf x = 0 := by unfold mostOf; rw [if_neg (by omega), if_neg (by omega), if_neg (by omega)]
      rw [if_pos h0, a1, a2]
      simp only [List.length_nil]
      omega
    · have := enc1_sizes x hm h0 hs
      rw [if_neg h0]
      omega
theorem sum_le (l : List S39) (h : ∀ x ∈ l, x.f2.size ≤ 400) : sumOf leastOf l ≤ 410 * l.length ∧ sumOf mostOf l ≤ 410 * l.length := by
  induction l with
  | nil => exact ⟨Nat.le_refl _, Nat.le_refl _⟩
  | cons x l ih =>
    obtain ⟨h1, h2⟩ := ih (fun y hy => h y (by simp [hy]))
    have hx := h x (by simp)
    have e1 : sumOf leastOf (x :: l) = leastOf x + sumOf leastOf l := rfl
    have e2 : sumOf mostOf (x :: l) = mostOf x + sumOf mostOf l := rfl
    have a1 : leastOf x ≤ 410 := by unfold leastOf; (repeat' split) <;> omega
    have a2 : mostOf x ≤ 410 := by unfold mostOf; (repeat' split) <;> omega
    rw [e1, e2, List.length_cons]
    omega
theorem sizes_l0 (l : List S39) (b : List Int) (hl : l.length ≤ 60) (hs : ∀ x ∈ l, x.f2.size ≤ 400) : ∀ (d k i p q : Nat), i + d = l.length → d < k → p ≤ 8 + 410 * i → q ≤ 8 + 410 * i → p + sumOf leastOf (l.drop i) ≤ b.length → b.length ≤ q + sumOf mostOf (l.drop i) →
    tidelinelaw04_RowSizes.l0 k l b p q i = some true := by
  intro d
  induction d with
  | zero =>
    intro k i p q hi hk hp hq h1 h2
    obtain ⟨k, rfl⟩ : ∃ j, k = j + 1 := ⟨k - 1, by omega⟩
    rw [List.drop_of_length_le (by omega)] at h1 h2
    have e1 : sumOf leastOf [] = 0 := rfl
    have e2 : sumOf mostOf [] = 0 := rfl
    rw [tidelinelaw04_RowSizes.l0, if_neg (by omega), if_pos (by omega), if_pos (by omega)]
    rfl
  | succ d ih =>
    intro k i p q hi hk hp hq h1 h2
    obtain ⟨k, rfl⟩ : ∃ j, k = j + 1 := ⟨k - 1, by omega⟩
    have hlt : i < l.length := by omega
    have hx := hs _ (rdT_mem hlt)
    have e1 : sumOf leastOf (l.drop i) = leastOf (rd_T39 l i) + sumOf leastOf (l.drop (i + 1)) := by rw [List.drop_eq_getElem_cons hlt, rdT_get hlt]; rfl
    have e2 : sumOf mostOf (l.drop i) = mostOf (rd_T39 l i) + sumOf mostOf (l.drop (i + 1)) := by rw [List.drop_eq_getElem_cons hlt, rdT_get hlt]; rfl
    rw [e1] at h1
    rw [e2] at h2
    have hih := ih k (i + 1)
    rw [tidelinelaw04_RowSizes.l0, if_pos (by omega), if_pos (by omega), w64s i (by omega), w64s p (by omega)]
    by_cases k1 : (rd_T39 l i).f0 = 1
    · have a1 : leastOf (rd_T39 l i) = 1 := by unfold leastOf; rw [if_pos k1]
      have a2 : mostOf (rd_T39 l i) = 1 := by unfold mostOf; rw [if_pos k1]
      rw [if_pos k1, w64s q (by omega)]
      exact hih (p + 1) (q + 1) (by omega) (by omega) (by omega) (by omega) (by omega) (by omega)
    · rw [if_neg k1]
      by_cases k2 : (rd_T39 l i).f0 = 2
      · have a1 : leastOf (rd_T39 l i) = 1 := by unfold leastOf; rw [if_neg k1, if_pos k2]
        have a2 : mostOf (rd_T39 l i) = 10 := by unfold mostOf; rw [if_neg k1, if_pos k2]
        rw [if_pos k2, w64_ten q (by omega)]
        exact hih (p + 1) (q + 10) (by omega) (by omega) (by omega) (by omega) (by omega) (by omega)
      · rw [if_neg k2]
        by_cases k3 : (rd_T39 l i).f0 = 3
        · have a1 : leastOf (rd_T39 l i) = 1 + (rd_T39 l i).f2.size := by unfold leastOf; rw [if_neg k1, if_neg k2, if_pos k3]
          have a2 : mostOf (rd_T39 l i) = 2 + (rd_T39 l i).f2.size := by unfold mostOf; rw [if_neg k1, if_neg k2, if_pos k3]
          rw [if_pos k3, w64_more (p + 1) _ (by omega), w64_two q (by omega), w64_more (q + 2) _ (by omega)]
          exact hih _ _ (by omega) (by omega) (by omega) (by omega) (by omega) (by omega)
        · have a1 : leastOf (rd_T39 l i) = 0 := by unfold leastOf; rw [if_neg k1, if_neg k2, if_neg k3]
          have a2 : mostOf (rd_T39 l i) = 0 := by unfold mostOf; rw [if_neg k1, if_neg k2, if_neg k3]
          rw [if_neg k3]
          exact hih p q (by omega) (by omega) (by omega) (by omega) (by omega) (by omega)
theorem rowSizes_f (l0 : List Int) (l1 : List S39) (hw1 : ∀ x ∈ l1, okVal x) : tidelinelaw04_RowSizes.f 400 l0 l1 = some true := by
  unfold tidelinelaw04_RowSizes.f
  obtain ⟨r, hr, hp⟩ := long4_k l0 l1 400 (by decide)
  rw [hr, Option.bind_some]
  cases r with
  | true => rfl
  | false =>
    obtain ⟨h1, h2, h3⟩ := hp rfl
    have hn := okNum_of l1 hw1
    have hs : (l1.all fun x => decide (x.f2.size ≤ 10000)) = true := by
      rw [List.all_eq_true]
      intro x hx
      have := h3 x hx
      simp; omega
    rw [if_neg (by decide), rowPut_f l0 l1 (by omega) (by omega) hn hs, Option.bind_some]
    unfold putRow
    by_cases h : knownT l0 = true ∧ fit l0 l1 = true
    · have hkd := fit_kinds l0 l1 h.1 h.2
      obtain ⟨v1, v2⟩ := encVals_sizes l1 (fun x hx => ⟨(hkd x hx).1, h3 x hx⟩)
      have e : (encRow l1).length = (l1.length + 7) / 8 + (encVals l1).length := by unfold encRow; rw [List.length_append, lay_length]
      rw [if_pos h, if_pos rfl, w64_seven _ (by omega), tdiv8 (l1.length + 7) (by omega)]
      exact sizes_l0 l1 (encRow l1) h2 h3 l1.length 400 0 _ _ (by omega) (by omega) (by omega) (by omega) (by rw [List.drop_zero]; omega) (by rw [List.drop_zero]; omega)
    · rw [if_neg h]
      rfl
theorem walk_RowSizes (A0 : Option Addr) (c0 : Nat) (l0 : List Int) (A1 : Option Addr) (c1 : Nat) (l1 : List S39) (w : World) (hr0 : Kd.C (Kd.int .u8) w A0 l0.length l0) (hc0 : l0.length ≤ c0) (hm0 : l0.length ≤ maxLen) (hw0 : ∀ x ∈ l0, (Lit.int .u8 x).wf = true)
    (hr1 : Kd.C k39 w A1 l1.length l1) (hc1 : l1.length ≤ c1) (hm1 : l1.length ≤ maxLen) (hw1 : ∀ x ∈ l1, okVal x) :
    Calls Try.prog 15 #[.slice A0 l0.length c0, .slice A1 l1.length c1] w fun e w' => e = .returned (.bool true) ∧ Below w.heap.size w w' :=
  tidelinelaw04_RowSizes.calls _ A0 c0 l0 A1 c1 l1 true w hr0 hc0 hr1 hc1 (rowSizes_f l0 l1 hw1)
end Go.Proofs.Ytlmcefhpnfoahaa.P
end

section
namespace Go.Proofs.Ytlmcefhpnfoahaa.rowSizes
open Go.ChangeShapes Go.WideShapes Go.ChangeAt Go.RowKit Go.Proofs.Ytlmcefhpnfoahaa.P
open Go.ChangeMaps (open_string shut_string)
set_option linter.unusedVariables false
theorem own : ownKnob Try.prog.godebug = none := by kernel_rfl
theorem laidOut : laidOutB Try.prog = true := by kernel_rfl
set_option maxRecDepth 100000 in
theorem lifted (os : Os) (started : os.Started) (H : Type) (enc : TypeId × Value → H) :
    ReturnsInHanded {} Try.checked os 15 .any (Rows.rowSizesSpec.pre6 enc Try.prog Try.f15 Rows.rowSizesRow.domain false) (Rows.rowSizesSpec.post enc Try.prog Try.f15 false true false false) := by
  refine returnsInHanded_of_change_sized (C := Try.checked) own started (by kernel_rfl) Try.func15
    (ChangeSpec.witness6 (enc := enc) (C := Try.checked) false ⟨#[], #[.slice none 0 0, .slice none 0 0], []⟩ 8 (by kernel_rfl) (by kernel_rfl) (by kernel_rfl) (by kernel_rfl)) ?_
  intro W base args ds gs before hval0 hW hcnd hsz0 _
  have hval : ∀ (j : Nat) t v, Try.f15.params[j]? = some t → args[j]? = some v → Value.okWide Try.prog W .any base t v := hval0
  have hW' := hW
  obtain ⟨p, q, hA0, hV, rfl, hfz, hnd⟩ := hW
  have hA : DataW.TrodAll enc Try.prog W 0 (fun _ => true) true Try.f15.params.toList args.toList ds p := hA0
  rw [Try.params15] at hA hval
  obtain ⟨v0, vs0, d0, ds0, p0, q0, hargs, rfl, rfl, h0, r0⟩ := trodAll_cons hA
  obtain ⟨v1, vs1, d1, ds1, p1, q1, rfl, rfl, rfl, h1, r1⟩ := trodAll_cons r0
  obtain ⟨rfl, rfl, rfl⟩ := trodAll_nil r1
  obtain rfl : args = #[v0, v1] := by cases args; simp_all
  obtain ⟨rfl, rfl⟩ := trodVars_none hV
  obtain ⟨a0, len0, cap0, rfl⟩ := okWide_slice Try.underlying22 (hval 0 22 v0 rfl rfl)
  have k0 := h0
  have lt0 : ∀ x ∈ p0, x.block < W.heap.size := by obtain ⟨m, hm⟩ := k0; exact DataW.trod_lt m _ _ _ hm
  obtain ⟨l0, rfl, y0, z0, m0, w0⟩ := open_arg (0 : Int) Try.underlying22 (by kernel_rfl) (tells_int Try.underlying5) h0
  obtain ⟨a1, len1, cap1, rfl⟩ := okWide_slice Try.underlying23 (hval 1 23 v1 rfl rfl)
  have k1 := h1
  have lt1 : ∀ x ∈ p1, x.block < W.heap.size := by obtain ⟨m, hm⟩ := k1; exact DataW.trod_lt m _ _ _ hm
  obtain ⟨l1, rfl, y1, z1, m1, w1⟩ := open_arg z39 Try.underlying23 (by kernel_rfl) tells_val h1
  clear hA0 hval0 hsz0
  refine (walk_RowSizes a0 cap0 l0 a1 cap1 l1 W z0 y0 m0 w0 z1 y1 m1 w1).mono fun e W' ⟨he, bel⟩ => ?_
  subst he
  exact ⟨_, rfl, _, _, _, [], _, [], hW', trodAll_mk1 (shut_bool Try.underlying4 _), (trodAll_cons_mk (Below.trod laidOut (by kernel_rfl) (of_decide_eq_true (by kernel_rfl)) k0 bel lt0) (trodAll_cons_mk (Below.trod laidOut (by kernel_rfl) (of_decide_eq_true (by kernel_rfl)) k1 bel lt1) trodAll_mk0)), rfl, bel.frame _, fun h => by cases h⟩
theorem k_wf : Rows.rowSizesRow.wf (OpenSpec.ofChange Rows.rowSizesSpec) = true := by kernel_rfl
theorem k_params : Try.f15.params.all (Try.prog.readableRec ·) = true := by kernel_rfl
theorem k_tie : namedTie Try.prog Rows.rowSizesRow.named Rows.rowSizesSpec.vars = true := by kernel_rfl
theorem k_inPlace : (Rows.rowSizesRow.inPlace == Try.prog.inPlace 15) = true := by kernel_rfl
theorem k_unfollowed : (Rows.rowSizesRow.unfollowed == Try.prog.unfollowed 15) = true := by kernel_rfl
theorem k_recurses : (Rows.rowSizesRow.recurses == Try.prog.recurses 15) = true := by kernel_rfl
theorem k_named : (Rows.rowSizesRow.named == Try.prog.varsNamed 15) = true := by kernel_rfl
theorem k_maps : (Rows.rowSizesRow.maps == (Try.f15.params.toList ++ Rows.rowSizesSpec.plain.varTypes Try.prog).any (Try.prog.mapsRec ·)) = true := by kernel_rfl
theorem k_ifaces : (Rows.rowSizesRow.ifaces == (Try.f15.params.toList ++ Rows.rowSizesSpec.plain.varTypes Try.prog).any (Try.prog.ifacesRec ·)) = true := by kernel_rfl
theorem k_mapsOut : (Rows.rowSizesRow.mapsOut == Try.prog.mapsAmong Try.f15.resultTypes.toList) = true := by kernel_rfl
theorem k_loops : (Rows.rowSizesRow.loops == (Try.f15.params.toList ++ Rows.rowSizesSpec.plain.varTypes Try.prog).any (Try.prog.loopsFrom ·)) = true := by kernel_rfl
theorem k_wideKeys : (Rows.rowSizesRow.wideKeys == ((Try.f15.params.toList ++ Rows.rowSizesSpec.plain.varTypes Try.prog) ++ Try.f15.resultTypes.toList).any (Try.prog.wideKeysFrom ·)) = true := by kernel_rfl
theorem k_results : Try.f15.resultTypes.all (fun t => Try.prog.readableRec t && decide (t < Try.prog.types.size)) = true := by kernel_rfl
theorem k_ifacesOut : (Rows.rowSizesRow.ifacesOut == Try.f15.resultTypes.toList.any (Try.prog.ifacesRec ·)) = true := by kernel_rfl
theorem k_loopsOut : (Rows.rowSizesRow.loopsOut == Try.f15.resultTypes.toList.any (Try.prog.loopsFrom ·)) = true := by kernel_rfl
theorem k_veiled : (Rows.rowSizesRow.veiled == ((Try.f15.params.toList ++ Rows.rowSizesSpec.plain.varTypes Try.prog) ++ Try.f15.resultTypes.toList).any (Try.prog.veiledRec ·)) = true := by kernel_rfl
theorem k_fits : Rows.rowSizesRow.veiledFits Try.prog Try.f15.params.toList ((Try.f15.params.toList ++ Rows.rowSizesSpec.plain.varTypes Try.prog) ++ Try.f15.resultTypes.toList) = true := by kernel_rfl
theorem k_kinds : (Rows.rowSizesRow.kinds == (if Rows.rowSizesRow.domain.isEmpty then [] else Try.f15.params.toList.map fun t => match Try.prog.underlying t with | some (.int k) => some k | _ => none)) = true := by kernel_rfl
theorem k_pins : (Rows.rowSizesRow.pinned == Rows.rowSizesRow.pinnedBy) = true := by kernel_rfl
theorem k_stops : (Rows.rowSizesRow.stops == []) = true := by kernel_rfl
theorem k_knobs : (Rows.rowSizesRow.knobs == []) = true := by kernel_rfl
theorem k_vars : Rows.rowSizesSpec.vars.all (Try.prog.varReadable ·) = true := by kernel_rfl
theorem k_plain : Rows.rowSizesRow.plainKeys = true := by kernel_rfl
theorem k_short : Rows.rowSizesRow.shortTexts.isNone = true := by kernel_rfl
theorem k_lift : Rows.rowSizesRow.lifted = false := by kernel_rfl
theorem k_make : Rows.rowSizesRow.make = .cut := by kernel_rfl
theorem k_func : Try.prog.funcNamed Rows.rowSizesRow.func = some 15 := by kernel_rfl
theorem k_plain2 : (Rows.rowSizesRow.plainKeys == Try.prog.plainKeys) = (Rows.rowSizesRow.plainKeys == true) := by rw [fact_plainKeys]
theorem k_lift2 : (Rows.rowSizesRow.lifted == Try.prog.liftsFinal) = (Rows.rowSizesRow.lifted == false) := by rw [fact_liftsFinal]
theorem k_make2 : (Try.prog.make == some Rows.rowSizesRow.make) = true := by rw [fact_make, k_make]; rfl
set_option maxRecDepth 100000 in
theorem closed : joinedFacts Try.prog 15 Try.f15 Rows.rowSizesSpec Rows.rowSizesRow = true :=
  joined_of Try.prog 15 Try.f15 Rows.rowSizesSpec Rows.rowSizesRow k_wf fact_laidOut fact_mapsRowed k_params k_tie k_stops fact_stops k_knobs fact_stopKnobs k_inPlace k_unfollowed k_recurses k_named k_maps k_ifaces k_mapsOut k_loops k_wideKeys k_vars k_results k_ifacesOut k_loopsOut k_plain2 k_plain k_short fact_stopsHeard fact_mayEnter k_lift2 k_lift k_make2 k_kinds k_pins k_veiled k_fits
theorem over : Rows.rowSizesRow.holds Try.pinned (OpenSpec.ofChange Rows.rowSizesSpec) :=
  OpenClaim.holds_of_wide 15 Try.f15 rfl rfl rfl rfl rfl rfl rfl ⟨rfl, rfl, rfl, rfl, rfl⟩ rfl rfl rfl rfl rfl k_func Try.func15 closed
    (of_decide_eq_true (by kernel_rfl)) (by unfold Func.isWrapper; first | (rw [if_pos (by decide +kernel)]; kernel_rfl) | (rw [if_neg (by decide +kernel)]; exact ⟨rfl, rfl⟩))
    (fun os started H enc _ => lifted os started H enc)
theorem proved : Rows.RowSizesSaid := over
#print axioms proved
end Go.Proofs.Ytlmcefhpnfoahaa.rowSizes
namespace Go.Proofs.Ytlmcefhpnfoahaa
/-- The row, under a short name, for the claim. -/
theorem rowSizes_holds : Rows.RowSizesSaid := rowSizes.proved
end Go.Proofs.Ytlmcefhpnfoahaa
end
