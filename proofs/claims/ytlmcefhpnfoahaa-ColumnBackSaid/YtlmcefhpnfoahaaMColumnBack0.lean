/- The row of the law ColumnBack: at every input it answers true, and each argument reads behind the call as it did. No condition. -/
import Derived.WalkKit
import Derived.ProofKit
import Derived.OpenShut
import Derived.ShutString
import Derived.ChangeOld
import Derived.Below
import Derived.SizedLaws
import Derived.Test.YtlmcefhpnfoahaaRows
import Derived.Test.YtlmcefhpnfoahaaBCOL2
section
namespace Go.Proofs.Ytlmcefhpnfoahaa.P
open Go.RowKit Go.Proofs.YtlmcefhpnfoahaaW.PrintWords Go.Proofs.YtlmcefhpnfoahaaW.PrintLast Go.Proofs.YtlmcefhpnfoahaaW.PrintMore
attribute [local go_sem] max2_int min2_int max_two min_two max_three min_three max_four min_four   -- for this text's walks alone
set_option linter.unusedVariables false
set_option linter.unusedSimpArgs false

mutual
def tidelinelaw06_ColumnBack.j0 : Nat → Int → List (S39) → Int → List Int → Bool → Option (Bool)
  | 0, _, _, _, _, _ => none
  | k + 1, x0, x1, x2, x3, x31 => if x31 = true then (some true) else ((column_Put.f x0 x1).bind fun bt1113 => ((tidelineref06_Column.f k x0 x1).bind fun t1117 => (if ((bt1113.2 == 0) != t1117) = true then (some false) else (if bt1113.2 = 0 then ((column_Get.f x0 bt1113.1 (x1.length : Int)).bind fun bt1118 => (if bt1118.2 = 0 then ((tidelineref03_Same.f k bt1118.1 x1).bind fun t1122 => (if t1122 = true then (tidelinelaw06_ColumnBack.j1 k x0 x2 x3) else (some false))) else (some false))) else (tidelinelaw06_ColumnBack.j1 k x0 x2 x3)))))
def tidelinelaw06_ColumnBack.j1 : Nat → Int → Int → List Int → Option (Bool)
  | 0, _, _, _ => none
  | k + 1, x0, x2, x3 => (column_Get.f x0 x3 x2).bind fun bt1123 => (if x0 < 1 then (tidelinelaw06_ColumnBack.j2 k x0 x2 x3 bt1123.1 bt1123.2 true) else (if x0 > 3 then (tidelinelaw06_ColumnBack.j2 k x0 x2 x3 bt1123.1 bt1123.2 true) else (if x2 < 0 then (tidelinelaw06_ColumnBack.j2 k x0 x2 x3 bt1123.1 bt1123.2 true) else (tidelinelaw06_ColumnBack.j2 k x0 x2 x3 bt1123.1 bt1123.2 (decide (x2 > 65536))))))
def tidelinelaw06_ColumnBack.j2 : Nat → Int → Int → List Int → List (S39) → Int → Bool → Option (Bool)
  | 0, _, _, _, _, _, _ => none
  | k + 1, x0, x2, x3, x13, x14, x82 => if x82 = true then (if x14 = 1 then (if (x13.length : Int) = 0 then ((tidelinelaw06_puts.f).bind fun t1127 => (some t1127)) else (some false)) else (some false)) else (if x14 = 0 then ((column_Put.f x0 x13).bind fun bt1128 => (if bt1128.2 = 0 then (if (x13.length : Int) = x2 then (if (strOfNums bt1128.1).toList = (strOfNums x3).toList then ((tidelinelaw06_puts.f).bind fun t1132 => (some t1132)) else (some false)) else (some false)) else (some false))) else (if (x13.length : Int) = 0 then (if x14 = 20 then ((tidelinelaw06_puts.f).bind fun t1133 => (some t1133)) else (if x14 = 21 then ((tidelinelaw06_puts.f).bind fun t1134 => (some t1134)) else (some false))) else (some false)))
end
def tidelinelaw06_ColumnBack.f (k : Nat) (a0 : Int) (l1 : List (S39)) (a2 : Int) (l3 : List Int) : Option (Bool) := (tidelinelaw06_long.f k l1).bind fun t1112 => (if t1112 = true then (tidelinelaw06_ColumnBack.j0 k a0 l1 a2 l3 true) else (if (l3.length : Int) > 1000 then (tidelinelaw06_ColumnBack.j0 k a0 l1 a2 l3 true) else (if a2 > 2000 then (tidelinelaw06_ColumnBack.j0 k a0 l1 a2 l3 (decide (a2 ≤ 65536))) else (tidelinelaw06_ColumnBack.j0 k a0 l1 a2 l3 false))))
set_option maxHeartbeats 8000000 in
set_option maxRecDepth 100000 in
theorem tidelinelaw06_ColumnBack.calls (k : Nat) (a0 : Int) (A1 : Option Addr) (c1 : Nat) (l1 : List (S39)) (a2 : Int) (A3 : Option Addr) (c3 : Nat) (l3 : List Int) (r : Bool) (w : World) (hr1 : Kd.C k39 w A1 l1.length l1) (hc1 : l1.length ≤ c1) (hr3 : Kd.C (Kd.int .u8) w A3 l3.length l3) (hc3 : l3.length ≤ c3) (h : tidelinelaw06_ColumnBack.f k a0 l1 a2 l3 = some r) :
    Calls Try.prog 19 #[.int .u8 a0, .slice A1 l1.length c1, .int .i64 a2, .slice A3 l3.length c3] w fun e w' => e = .returned (.bool r) ∧ Below w.heap.size w w' := by
  have HR1 := Aside0.mk hr1
  have HC1 := Aside0.mk hc1
  clear hr1 hc1
  have HR3 := Aside0.mk hr3
  have HC3 := Aside0.mk hc3
  clear hr3 hc3
  have HB := Aside0.mk (Below.refl w.heap.size w)
  have H : ((tidelinelaw06_long.f k l1).bind fun t1112 => (if t1112 = true then (tidelinelaw06_ColumnBack.j0 k a0 l1 a2 l3 true) else (if (l3.length : Int) > 1000 then (tidelinelaw06_ColumnBack.j0 k a0 l1 a2 l3 true) else (if a2 > 2000 then (tidelinelaw06_ColumnBack.j0 k a0 l1 a2 l3 (decide (a2 ≤ 65536))) else (tidelinelaw06_ColumnBack.j0 k a0 l1 a2 l3 false))))) = some r := h
  clear h
  have HC5 := Aside0.mk H
  clear H
  go_enter Try.func19, Try.ntmps19
  go_upto_region 1 with (fail)
  go_cut [31] (fun v31 wc => ∃ (kq : Nat) (x31_4 : Bool), v31 = .bool x31_4 ∧ Aside0 (tidelinelaw06_ColumnBack.j0 kq a0 l1 a2 l3 x31_4 = some r) ∧ Aside0 (kq ≤ k) ∧ Aside0 (Below w.heap.size w wc))
  case first =>
    have H := HC5.out
    clear HC5
    replace H := Option.bind_eq_some_iff.mp H
    obtain ⟨t1112, A60, H⟩ := H
    replace H : (if t1112 = true then (tidelinelaw06_ColumnBack.j0 k a0 l1 a2 l3 true) else (if (l3.length : Int) > 1000 then (tidelinelaw06_ColumnBack.j0 k a0 l1 a2 l3 true) else (if a2 > 2000 then (tidelinelaw06_ColumnBack.j0 k a0 l1 a2 l3 (decide (a2 ≤ 65536))) else (tidelinelaw06_ColumnBack.j0 k a0 l1 a2 l3 false)))) = some r := H
    have A6 := Aside0.mk A60
    clear A60
    by_cases c7 : t1112 = true
    · subst c7
      have H1 : (tidelinelaw06_ColumnBack.j0 k a0 l1 a2 l3 true) = some r := by rw [if_pos rfl] at H; exact H
      clear H
      have H := H1
      clear H1
      have H' := Aside0.mk H
      clear H
      go_wp2_with (first | ((with_reducible refine gate_callee (f := 54) rfl ?_); refine goesL_ (some 18) rfl rfl Try.func54 (by kernel_rfl) rfl #[.slice A1 l1.length c1] rfl (by (try simp only [List.map_toArray, List.map_cons, List.map_nil]); first | done | rfl | (simp only [List.length_drop, List.length_take]; rfl)) ?_; (with_reducible refine (tidelinelaw06_long.calls k _ _ l1 true _ ?side1 ?side2 A6.out).mono ?_); (case side1 => repeat (first | exact (Kd.C_below HR1.out HB.out) | (with_reducible refine Kd.C_alloc ?_ _) | (with_reducible refine Kd.C_drewN ?_ _) | (with_reducible refine Kd.C_drew ?_))); (case side2 => exact HC1.out); rintro e w' ⟨rfl, ⟨nd, rfl⟩⟩; refine ⟨_, rfl, ?_⟩))
      go_meet
      case rel => exact ⟨_, (true), (by first | rfl | (simp; done) | (simp [*]; done)), H', ⟨by first | omega | exact Nat.le_refl _⟩, ⟨by repeat (first | (with_reducible first | exact HB.out | apply below_alloc | apply pw_below_drewN | apply below_drew1) | exact HB.out)⟩⟩
    · replace c7 := Bool.eq_false_iff.mpr c7
      subst c7
      have H1 : (if (l3.length : Int) > 1000 then (tidelinelaw06_ColumnBack.j0 k a0 l1 a2 l3 true) else (if a2 > 2000 then (tidelinelaw06_ColumnBack.j0 k a0 l1 a2 l3 (decide (a2 ≤ 65536))) else (tidelinelaw06_ColumnBack.j0 k a0 l1 a2 l3 false))) = some r := by rw [if_neg (show ¬ (false = true) by decide)] at H; exact H
      clear H
      have H := H1
      clear H1
      by_cases c8 : (l3.length : Int) > 1000
      · rw [if_pos c8] at H
        have c8b0 : decide (1000 < (l3.length : Int)) = true := decide_eq_true c8
        have c8b1 : decide (1000 < l3.length) = true := decide_eq_true (by omega)
        clear c8
        (first | rw [c8b0] | (simp only [i64_w, i32_w]; rw [c8b0]) | skip)
        have H' := Aside0.mk H
        clear H
        go_wp2_with (first | ((with_reducible refine gate_callee (f := 54) rfl ?_); refine goesL_ (some 18) rfl rfl Try.func54 (by kernel_rfl) rfl #[.slice A1 l1.length c1] rfl (by (try simp only [List.map_toArray, List.map_cons, List.map_nil]); first | done | rfl | (simp only [List.length_drop, List.length_take]; rfl)) ?_; (with_reducible refine (tidelinelaw06_long.calls k _ _ l1 false _ ?side1 ?side2 A6.out).mono ?_); (case side1 => repeat (first | exact (Kd.C_below HR1.out HB.out) | (with_reducible refine Kd.C_alloc ?_ _) | (with_reducible refine Kd.C_drewN ?_ _) | (with_reducible refine Kd.C_drew ?_))); (case side2 => exact HC1.out); rintro e w' ⟨rfl, ⟨nd, rfl⟩⟩; refine ⟨_, rfl, ?_⟩))
        go_meet
        case rel => exact ⟨_, (true), (by first | rfl | (simp; done) | (simp [*]; done)), H', ⟨by first | omega | exact Nat.le_refl _⟩, ⟨by repeat (first | (with_reducible first | exact HB.out | apply below_alloc | apply pw_below_drewN | apply below_drew1) | exact HB.out)⟩⟩
      · rw [if_neg c8] at H
        have c8b0 : decide (1000 < (l3.length : Int)) = false := decide_eq_false c8
        have c8b1 : decide (1000 < l3.length) = false := decide_eq_false (by omega)
        clear c8
        (first | rw [c8b0] | (simp only [i64_w, i32_w]; rw [c8b0]) | skip)
        by_cases c9 : a2 > 2000
        · rw [if_pos c9] at H
          have c9b0 : decide (2000 < a2) = true := decide_eq_true c9
          clear c9
          have H' := Aside0.mk H
          clear H
          go_wp2_with (first | ((with_reducible refine gate_callee (f := 54) rfl ?_); refine goesL_ (some 18) rfl rfl Try.func54 (by kernel_rfl) rfl #[.slice A1 l1.length c1] rfl (by (try simp only [List.map_toArray, List.map_cons, List.map_nil]); first | done | rfl | (simp only [List.length_drop, List.length_take]; rfl)) ?_; (with_reducible refine (tidelinelaw06_long.calls k _ _ l1 false _ ?side1 ?side2 A6.out).mono ?_); (case side1 => repeat (first | exact (Kd.C_below HR1.out HB.out) | (with_reducible refine Kd.C_alloc ?_ _) | (with_reducible refine Kd.C_drewN ?_ _) | (with_reducible refine Kd.C_drew ?_))); (case side2 => exact HC1.out); rintro e w' ⟨rfl, ⟨nd, rfl⟩⟩; refine ⟨_, rfl, ?_⟩))
          go_meet
          case rel => exact ⟨_, (decide (a2 ≤ 65536)), (by first | rfl | (simp; done) | (simp [*]; done)), H', ⟨by first | omega | exact Nat.le_refl _⟩, ⟨by repeat (first | (with_reducible first | exact HB.out | apply below_alloc | apply pw_below_drewN | apply below_drew1) | exact HB.out)⟩⟩
        · rw [if_neg c9] at H
          have c9b0 : decide (2000 < a2) = false := decide_eq_false c9
          clear c9
          have H' := Aside0.mk H
          clear H
          go_wp2_with (first | ((with_reducible refine gate_callee (f := 54) rfl ?_); refine goesL_ (some 18) rfl rfl Try.func54 (by kernel_rfl) rfl #[.slice A1 l1.length c1] rfl (by (try simp only [List.map_toArray, List.map_cons, List.map_nil]); first | done | rfl | (simp only [List.length_drop, List.length_take]; rfl)) ?_; (with_reducible refine (tidelinelaw06_long.calls k _ _ l1 false _ ?side1 ?side2 A6.out).mono ?_); (case side1 => repeat (first | exact (Kd.C_below HR1.out HB.out) | (with_reducible refine Kd.C_alloc ?_ _) | (with_reducible refine Kd.C_drewN ?_ _) | (with_reducible refine Kd.C_drew ?_))); (case side2 => exact HC1.out); rintro e w' ⟨rfl, ⟨nd, rfl⟩⟩; refine ⟨_, rfl, ?_⟩))
          go_meet
          case rel => exact ⟨_, (false), (by first | rfl | (simp; done) | (simp [*]; done)), H', ⟨by first | omega | exact Nat.le_refl _⟩, ⟨by repeat (first | (with_reducible first | exact HB.out | apply below_alloc | apply pw_below_drewN | apply below_drew1) | exact HB.out)⟩⟩
  case rest =>
    clear HC5
    try clear c1
    try clear p2
    try clear c3
    try clear c5
    try clear c7
    try clear c8
    try clear c8b0
    try clear c8b1
    try clear c9
    try clear c9b0
    obtain ⟨kq, x31_4, rfl, HA, HJ4, HB⟩ := hcut
    cases kq with
    | zero => exact absurd HA.out (by simp [tidelinelaw06_ColumnBack.j0])
    | succ kj4 =>
      have H := HA.out
      clear HA
      simp only [tidelinelaw06_ColumnBack.j0] at H
      by_cases c10 : x31_4 = true
      · subst c10
        have H1 : (some true) = some r := by rw [if_pos rfl] at H; exact H
        clear H
        have H := H1
        clear H1
        obtain rfl := Option.some.inj H
        go_wp2
        go_ret
        exact ⟨by first | rfl | (simp [errW_none, errW_some] <;> rfl) | (simp [*, errW_none, errW_some] <;> rfl), by repeat (first | (with_reducible first | exact HB.out | apply below_alloc | apply pw_below_drewN | apply below_drew1) | exact HB.out)⟩
      · replace c10 := Bool.eq_false_iff.mpr c10
        subst c10
        have H1 : ((column_Put.f a0 l1).bind fun bt1113 => ((tidelineref06_Column.f kj4 a0 l1).bind fun t1117 => (if ((bt1113.2 == 0) != t1117) = true then (some false) else (if bt1113.2 = 0 then ((column_Get.f a0 bt1113.1 (l1.length : Int)).bind fun bt1118 => (if bt1118.2 = 0 then ((tidelineref03_Same.f kj4 bt1118.1 l1).bind fun t1122 => (if t1122 = true then (tidelinelaw06_ColumnBack.j1 kj4 a0 a2 l3) else (some false))) else (some false))) else (tidelinelaw06_ColumnBack.j1 kj4 a0 a2 l3))))) = some r := by rw [if_neg (show ¬ (false = true) by decide)] at H; exact H
        clear H
        have H := H1
        clear H1
        replace H := Option.bind_eq_some_iff.mp H
        obtain ⟨⟨t1113, t1114⟩, A110, H⟩ := H
        replace H : ((tidelineref06_Column.f kj4 a0 l1).bind fun t1117 => (if ((t1114 == 0) != t1117) = true then (some false) else (if t1114 = 0 then ((column_Get.f a0 t1113 (l1.length : Int)).bind fun bt1118 => (if bt1118.2 = 0 then ((tidelineref03_Same.f kj4 bt1118.1 l1).bind fun t1122 => (if t1122 = true then (tidelinelaw06_ColumnBack.j1 kj4 a0 a2 l3) else (some false))) else (some false))) else (tidelinelaw06_ColumnBack.j1 kj4 a0 a2 l3)))) = some r := H
        have A11 := Aside0.mk A110
        clear A110
        replace H := Option.bind_eq_some_iff.mp H
        obtain ⟨t1117, A120, H⟩ := H
        replace H : (if ((t1114 == 0) != t1117) = true then (some false) else (if t1114 = 0 then ((column_Get.f a0 t1113 (l1.length : Int)).bind fun bt1118 => (if bt1118.2 = 0 then ((tidelineref03_Same.f kj4 bt1118.1 l1).bind fun t1122 => (if t1122 = true then (tidelinelaw06_ColumnBack.j1 kj4 a0 a2 l3) else (some false))) else (some false))) else (tidelinelaw06_ColumnBack.j1 kj4 a0 a2 l3))) = some r := H
        have A12 := Aside0.mk A120
        clear A120
        by_cases c13 : ((t1114 == 0) != t1117) = true
        · rw [if_pos c13] at H
          have c13b0 : ((t1114 == 0) != t1117) = true := c13
          (try (have c13b1 : decide ((t1114 == 0) = t1117) = false := by simpa using c13))
          (try (have c13b2 : ((t1114 == 0) == t1117) = false := by simpa using c13))
          (try (have c13b3 : ¬ ((t1114 == 0) = t1117) := by simpa using c13))
          clear c13
          obtain rfl := Option.some.inj H
          go_wp2_with (first | ((with_reducible refine gate_callee (f := 55) rfl ?_); refine goesL_ (some 35) rfl rfl Try.func55 (by kernel_rfl) rfl #[.int .u8 a0, .slice A1 l1.length c1] rfl (by (try simp only [List.map_toArray, List.map_cons, List.map_nil]); first | done | rfl | (simp only [List.length_drop, List.length_take]; rfl)) ?_; (with_reducible refine (column_Put.calls a0 _ _ l1 t1113 t1114 _ ?side1 ?side2 A11.out).mono ?_); (case side1 => repeat (first | exact (Kd.C_below HR1.out HB.out) | (with_reducible refine Kd.C_alloc ?_ _) | (with_reducible refine Kd.C_drewN ?_ _) | (with_reducible refine Kd.C_drew ?_))); (case side2 => exact HC1.out); rintro e w14 ⟨v1115, rfl, ho0, hb⟩; refine ⟨_, rfl, ?_⟩; have n0_ := Aside0.mk (Kd.R_lower ho0 (below_size (by repeat (first | (with_reducible first | exact HB.out | apply below_alloc | apply pw_below_drewN | apply below_drew1) | exact HB.out)))); have n1_ := Aside0.mk (below_step (by repeat (first | (with_reducible first | exact HB.out | apply below_alloc | apply pw_below_drewN | apply below_drew1) | exact HB.out)) hb); clear HB; have HO1116 := n0_; have HB := n1_; clear n0_ n1_; (try clear hb); (try clear hb2); (try clear hk); (try clear hi); (try clear ho0)) | ((with_reducible refine gate_callee (f := 60) rfl ?_); refine goesL_ (some 42) rfl rfl Try.func60 (by kernel_rfl) rfl #[.int .u8 a0, .slice A1 l1.length c1] rfl (by (try simp only [List.map_toArray, List.map_cons, List.map_nil]); first | done | rfl | (simp only [List.length_drop, List.length_take]; rfl)) ?_; (with_reducible refine (tidelineref06_Column.calls kj4 a0 _ _ l1 t1117 _ ?side1 ?side2 A12.out).mono ?_); (case side1 => repeat (first | exact (Kd.C_below HR1.out HB.out) | (with_reducible refine Kd.C_alloc ?_ _) | (with_reducible refine Kd.C_drewN ?_ _) | (with_reducible refine Kd.C_drew ?_))); (case side2 => exact HC1.out); rintro e w15 ⟨rfl, hb⟩; refine ⟨_, rfl, ?_⟩; have n0_ := Aside0.mk (Kd.R_below (by (with_reducible repeat (first | apply Kd.R_alloc | apply Kd.R_drewN | apply Kd.R_drew)); exact HO1116.out) hb); have n1_ := Aside0.mk (below_step (by repeat (first | (with_reducible first | exact HB.out | apply below_alloc | apply pw_below_drewN | apply below_drew1) | exact HB.out)) hb); clear HO1116; clear HB; have HO1116 := n0_; have HB := n1_; clear n0_ n1_; (try clear hb); (try clear hb2); (try clear hk); (try clear hi)))
          go_ret
          exact ⟨by first | rfl | (simp [errW_none, errW_some] <;> rfl) | (simp [*, errW_none, errW_some] <;> rfl), by repeat (first | (with_reducible first | exact HB.out | apply below_alloc | apply pw_below_drewN | apply below_drew1) | exact HB.out)⟩
        · rw [if_neg c13] at H
          have c13b0 : ((t1114 == 0) != t1117) = false := by simpa using c13
          (try (have c13b1 : decide ((t1114 == 0) = t1117) = true := by simpa using c13))
          (try (have c13b2 : ((t1114 == 0) == t1117) = true := by simpa using c13))
          clear c13
          have HC16 := Aside0.mk H
          clear H
          go_upto_if 45 with (first | ((with_reducible refine gate_callee (f := 55) rfl ?_); refine goesL_ (some 35) rfl rfl Try.func55 (by kernel_rfl) rfl #[.int .u8 a0, .slice A1 l1.length c1] rfl (by (try simp only [List.map_toArray, List.map_cons, List.map_nil]); first | done | rfl | (simp only [List.length_drop, List.length_take]; rfl)) ?_; (with_reducible refine (column_Put.calls a0 _ _ l1 t1113 t1114 _ ?side1 ?side2 A11.out).mono ?_); (case side1 => repeat (first | exact (Kd.C_below HR1.out HB.out) | (with_reducible refine Kd.C_alloc ?_ _) | (with_reducible refine Kd.C_drewN ?_ _) | (with_reducible refine Kd.C_drew ?_))); (case side2 => exact HC1.out); rintro e w17 ⟨v1115, rfl, ho0, hb⟩; refine ⟨_, rfl, ?_⟩; have n0_ := Aside0.mk (Kd.R_lower ho0 (below_size (by repeat (first | (with_reducible first | exact HB.out | apply below_alloc | apply pw_below_drewN | apply below_drew1) | exact HB.out)))); have n1_ := Aside0.mk (below_step (by repeat (first | (with_reducible first | exact HB.out | apply below_alloc | apply pw_below_drewN | apply below_drew1) | exact HB.out)) hb); clear HB; have HO1116 := n0_; have HB := n1_; clear n0_ n1_; (try clear hb); (try clear hb2); (try clear hk); (try clear hi); (try clear ho0)) | ((with_reducible refine gate_callee (f := 60) rfl ?_); refine goesL_ (some 42) rfl rfl Try.func60 (by kernel_rfl) rfl #[.int .u8 a0, .slice A1 l1.length c1] rfl (by (try simp only [List.map_toArray, List.map_cons, List.map_nil]); first | done | rfl | (simp only [List.length_drop, List.length_take]; rfl)) ?_; (with_reducible refine (tidelineref06_Column.calls kj4 a0 _ _ l1 t1117 _ ?side1 ?side2 A12.out).mono ?_); (case side1 => repeat (first | exact (Kd.C_below HR1.out HB.out) | (with_reducible refine Kd.C_alloc ?_ _) | (with_reducible refine Kd.C_drewN ?_ _) | (with_reducible refine Kd.C_drew ?_))); (case side2 => exact HC1.out); rintro e w18 ⟨rfl, hb⟩; refine ⟨_, rfl, ?_⟩; have n0_ := Aside0.mk (Kd.R_below (by (with_reducible repeat (first | apply Kd.R_alloc | apply Kd.R_drewN | apply Kd.R_drew)); exact HO1116.out) hb); have n1_ := Aside0.mk (below_step (by repeat (first | (with_reducible first | exact HB.out | apply below_alloc | apply pw_below_drewN | apply below_drew1) | exact HB.out)) hb); clear HO1116; clear HB; have HO1116 := n0_; have HB := n1_; clear n0_ n1_; (try clear hb); (try clear hb2); (try clear hk); (try clear hi)))
          (try simp only [Act.put, List.setIfInBounds_toArray, List.set_cons_zero, List.set_cons_succ])
          go_cut [] (fun wc => ∃ (kq : Nat), Aside0 (tidelinelaw06_ColumnBack.j1 kq a0 a2 l3 = some r) ∧ Aside0 (kq ≤ kj4) ∧ Aside0 (Below w.heap.size w wc))
          case first =>
            have H := HC16.out
            clear HC16
            by_cases c19 : t1114 = 0
            · rw [if_pos c19] at H
              have c19b0 : (t1114 == 0) = true := beq_iff_eq.mpr c19
              have c19b1 : (t1114 != 0) = false := bne_eq_false_iff_eq.mpr c19
              clear c19
              (first | rw [c19b0] | (simp only [i64_w, i32_w]; rw [c19b0]) | skip)
              replace H := Option.bind_eq_some_iff.mp H
              obtain ⟨⟨t1118, t1119⟩, A200, H⟩ := H
              replace H : (if t1119 = 0 then ((tidelineref03_Same.f kj4 t1118 l1).bind fun t1122 => (if t1122 = true then (tidelinelaw06_ColumnBack.j1 kj4 a0 a2 l3) else (some false))) else (some false)) = some r := H
              have A20 := Aside0.mk A200
              clear A200
              by_cases c21 : t1119 = 0
              · rw [if_pos c21] at H
                have c21b0 : (t1119 == 0) = true := beq_iff_eq.mpr c21
                have c21b1 : (t1119 != 0) = false := bne_eq_false_iff_eq.mpr c21
                clear c21
                replace H := Option.bind_eq_some_iff.mp H
                obtain ⟨t1122, A220, H⟩ := H
                replace H : (if t1122 = true then (tidelinelaw06_ColumnBack.j1 kj4 a0 a2 l3) else (some false)) = some r := H
                have A22 := Aside0.mk A220
                clear A220
                by_cases c23 : t1122 = true
                · subst c23
                  have H1 : (tidelinelaw06_ColumnBack.j1 kj4 a0 a2 l3) = some r := by rw [if_pos rfl] at H; exact H
                  clear H
                  have H := H1
                  clear H1
                  have H' := Aside0.mk H
                  clear H
                  obtain ⟨Ao24, co24, eo24⟩ := Kd.R_slice HO1116.out
                  subst eo24
                  go_wp2_with (first | ((with_reducible refine gate_callee (f := 58) rfl ?_); refine goesL_ (some 51) rfl rfl Try.func58 (by kernel_rfl) rfl #[.int .u8 a0, .slice Ao24 t1113.length co24, .int .i64 (l1.length : Int)] rfl (by (try simp only [List.map_toArray, List.map_cons, List.map_nil]); first | done | rfl | (simp only [List.length_drop, List.length_take]; rfl)) ?_; (with_reducible refine (column_Get.calls a0 _ _ t1113 (l1.length : Int) t1118 t1119 _ ?side1 ?side2 A20.out).mono ?_); (case side1 => repeat (first | exact (Kd.R_reads' HO1116.out).2.2 | (with_reducible refine Kd.C_alloc ?_ _) | (with_reducible refine Kd.C_drewN ?_ _) | (with_reducible refine Kd.C_drew ?_))); (case side2 => exact (Kd.R_reads' HO1116.out).2.1); rintro e w25 ⟨v1120, rfl, ho0, hb⟩; refine ⟨_, rfl, ?_⟩; have n0_ := Aside0.mk (Kd.R_below (by (with_reducible repeat (first | apply Kd.R_alloc | apply Kd.R_drewN | apply Kd.R_drew)); exact HO1116.out) hb); have n1_ := Aside0.mk (Kd.R_lower ho0 (below_size (by repeat (first | (with_reducible first | exact HB.out | apply below_alloc | apply pw_below_drewN | apply below_drew1) | exact HB.out)))); have n2_ := Aside0.mk (below_step (by repeat (first | (with_reducible first | exact HB.out | apply below_alloc | apply pw_below_drewN | apply below_drew1) | exact HB.out)) hb); clear HO1116; clear HB; have HO1116 := n0_; have HO1121 := n1_; have HB := n2_; clear n0_ n1_ n2_; (try clear hb); (try clear hb2); (try clear hk); (try clear hi); (try clear ho0); obtain ⟨Ao26, co26, eo26⟩ := Kd.R_slice HO1121.out; subst eo26) | (go_at_call 32; (with_reducible refine (tidelineref03_Same.calls kj4 _ _ t1118 _ _ l1 true _ ?side1 ?side2 ?side3 ?side4 A22.out).mono ?_); (case side1 => repeat (first | exact (Kd.R_reads' HO1121.out).2.2 | (with_reducible refine Kd.C_alloc ?_ _) | (with_reducible refine Kd.C_drewN ?_ _) | (with_reducible refine Kd.C_drew ?_))); (case side2 => exact (Kd.R_reads' HO1121.out).2.1); (case side3 => repeat (first | exact (Kd.C_below HR1.out HB.out) | (with_reducible refine Kd.C_alloc ?_ _) | (with_reducible refine Kd.C_drewN ?_ _) | (with_reducible refine Kd.C_drew ?_))); (case side4 => exact HC1.out); rintro e w' ⟨rfl, ⟨nd, rfl⟩⟩))
                  go_meet
                  case rel => exact ⟨_, H', ⟨by have := HJ4.out; first | omega | exact Nat.le_refl _⟩, ⟨by repeat (first | (with_reducible first | exact HB.out | apply below_alloc | apply pw_below_drewN | apply below_drew1) | exact HB.out)⟩⟩
                · replace c23 := Bool.eq_false_iff.mpr c23
                  subst c23
                  have H1 : (some false) = some r := by rw [if_neg (show ¬ (false = true) by decide)] at H; exact H
                  clear H
                  have H := H1
                  clear H1
                  obtain rfl := Option.some.inj H
                  obtain ⟨Ao27, co27, eo27⟩ := Kd.R_slice HO1116.out
                  subst eo27
                  go_wp2_with (first | ((with_reducible refine gate_callee (f := 58) rfl ?_); refine goesL_ (some 51) rfl rfl Try.func58 (by kernel_rfl) rfl #[.int .u8 a0, .slice Ao27 t1113.length co27, .int .i64 (l1.length : Int)] rfl (by (try simp only [List.map_toArray, List.map_cons, List.map_nil]); first | done | rfl | (simp only [List.length_drop, List.length_take]; rfl)) ?_; (with_reducible refine (column_Get.calls a0 _ _ t1113 (l1.length : Int) t1118 t1119 _ ?side1 ?side2 A20.out).mono ?_); (case side1 => repeat (first | exact (Kd.R_reads' HO1116.out).2.2 | (with_reducible refine Kd.C_alloc ?_ _) | (with_reducible refine Kd.C_drewN ?_ _) | (with_reducible refine Kd.C_drew ?_))); (case side2 => exact (Kd.R_reads' HO1116.out).2.1); rintro e w28 ⟨v1120, rfl, ho0, hb⟩; refine ⟨_, rfl, ?_⟩; have n0_ := Aside0.mk (Kd.R_below (by (with_reducible repeat (first | apply Kd.R_alloc | apply Kd.R_drewN | apply Kd.R_drew)); exact HO1116.out) hb); have n1_ := Aside0.mk (Kd.R_lower ho0 (below_size (by repeat (first | (with_reducible first | exact HB.out | apply below_alloc | apply pw_below_drewN | apply below_drew1) | exact HB.out)))); have n2_ := Aside0.mk (below_step (by repeat (first | (with_reducible first | exact HB.out | apply below_alloc | apply pw_below_drewN | apply below_drew1) | exact HB.out)) hb); clear HO1116; clear HB; have HO1116 := n0_; have HO1121 := n1_; have HB := n2_; clear n0_ n1_ n2_; (try clear hb); (try clear hb2); (try clear hk); (try clear hi); (try clear ho0); obtain ⟨Ao29, co29, eo29⟩ := Kd.R_slice HO1121.out; subst eo29) | (go_at_call 32; (with_reducible refine (tidelineref03_Same.calls kj4 _ _ t1118 _ _ l1 false _ ?side1 ?side2 ?side3 ?side4 A22.out).mono ?_); (case side1 => repeat (first | exact (Kd.R_reads' HO1121.out).2.2 | (with_reducible refine Kd.C_alloc ?_ _) | (with_reducible refine Kd.C_drewN ?_ _) | (with_reducible refine Kd.C_drew ?_))); (case side2 => exact (Kd.R_reads' HO1121.out).2.1); (case side3 => repeat (first | exact (Kd.C_below HR1.out HB.out) | (with_reducible refine Kd.C_alloc ?_ _) | (with_reducible refine Kd.C_drewN ?_ _) | (with_reducible refine Kd.C_drew ?_))); (case side4 => exact HC1.out); rintro e w' ⟨rfl, ⟨nd, rfl⟩⟩))
                  go_ret
                  exact ⟨by first | rfl | (simp [errW_none, errW_some] <;> rfl) | (simp [*, errW_none, errW_some] <;> rfl), by repeat (first | (with_reducible first | exact HB.out | apply below_alloc | apply pw_below_drewN | apply below_drew1) | exact HB.out)⟩
              · rw [if_neg c21] at H
                have c21b0 : (t1119 == 0) = false := beq_eq_false_iff_ne.mpr c21
                have c21b1 : (t1119 != 0) = true := bne_iff_ne.mpr c21
                obtain rfl := Option.some.inj H
                obtain ⟨Ao30, co30, eo30⟩ := Kd.R_slice HO1116.out
                subst eo30
                go_wp2_with (first | ((with_reducible refine gate_callee (f := 58) rfl ?_); refine goesL_ (some 51) rfl rfl Try.func58 (by kernel_rfl) rfl #[.int .u8 a0, .slice Ao30 t1113.length co30, .int .i64 (l1.length : Int)] rfl (by (try simp only [List.map_toArray, List.map_cons, List.map_nil]); first | done | rfl | (simp only [List.length_drop, List.length_take]; rfl)) ?_; (with_reducible refine (column_Get.calls a0 _ _ t1113 (l1.length : Int) t1118 t1119 _ ?side1 ?side2 A20.out).mono ?_); (case side1 => repeat (first | exact (Kd.R_reads' HO1116.out).2.2 | (with_reducible refine Kd.C_alloc ?_ _) | (with_reducible refine Kd.C_drewN ?_ _) | (with_reducible refine Kd.C_drew ?_))); (case side2 => exact (Kd.R_reads' HO1116.out).2.1); rintro e w31 ⟨v1120, rfl, ho0, hb⟩; refine ⟨_, rfl, ?_⟩; have n0_ := Aside0.mk (Kd.R_below (by (with_reducible repeat (first | apply Kd.R_alloc | apply Kd.R_drewN | apply Kd.R_drew)); exact HO1116.out) hb); have n1_ := Aside0.mk (Kd.R_lower ho0 (below_size (by repeat (first | (with_reducible first | exact HB.out | apply below_alloc | apply pw_below_drewN | apply below_drew1) | exact HB.out)))); have n2_ := Aside0.mk (below_step (by repeat (first | (with_reducible first | exact HB.out | apply below_alloc | apply pw_below_drewN | apply below_drew1) | exact HB.out)) hb); clear HO1116; clear HB; have HO1116 := n0_; have HO1121 := n1_; have HB := n2_; clear n0_ n1_ n2_; (try clear hb); (try clear hb2); (try clear hk); (try clear hi); (try clear ho0)))
                go_ret
                exact ⟨by first | rfl | (simp [errW_none, errW_some] <;> rfl) | (simp [*, errW_none, errW_some] <;> rfl), by repeat (first | (with_reducible first | exact HB.out | apply below_alloc | apply pw_below_drewN | apply below_drew1) | exact HB.out)⟩
            · rw [if_neg c19] at H
              have c19b0 : (t1114 == 0) = false := beq_eq_false_iff_ne.mpr c19
              have c19b1 : (t1114 != 0) = true := bne_iff_ne.mpr c19
              (first | rw [c19b0] | (simp only [i64_w, i32_w]; rw [c19b0]) | skip)
              have H' := Aside0.mk H
              clear H
              go_wp2
              go_meet
              case rel => exact ⟨_, H', ⟨by have := HJ4.out; first | omega | exact Nat.le_refl _⟩, ⟨by repeat (first | (with_reducible first | exact HB.out | apply below_alloc | apply pw_below_drewN | apply below_drew1) | exact HB.out)⟩⟩
          case rest =>
            clear HC16
            try clear c1
            try clear c2
            try clear p2
            try clear c3
            try clear c5
            try clear c6
            try clear c7
            try clear c8
            try clear c8b0
            try clear c8b1
            try clear c9
            try clear c9b0
            try clear c10
            try clear c13
            try clear c13b0
            try clear c13b1
            try clear c13b2
            try clear c19
            try clear c19b0
            try clear c19b1
            try clear c21
            try clear c21b0
            try clear c21b1
            try clear c23
            try clear p2
            obtain ⟨kq, HA, HJ15, HB⟩ := hcut
            cases kq with
            | zero => exact absurd HA.out (by simp [tidelinelaw06_ColumnBack.j1])
            | succ kj15 =>
              have H := HA.out
              clear HA
              simp only [tidelinelaw06_ColumnBack.j1] at H
              replace H := Option.bind_eq_some_iff.mp H
              obtain ⟨⟨t1123, t1124⟩, A320, H⟩ := H
              replace H : (if a0 < 1 then (tidelinelaw06_ColumnBack.j2 kj15 a0 a2 l3 t1123 t1124 true) else (if a0 > 3 then (tidelinelaw06_ColumnBack.j2 kj15 a0 a2 l3 t1123 t1124 true) else (if a2 < 0 then (tidelinelaw06_ColumnBack.j2 kj15 a0 a2 l3 t1123 t1124 true) else (tidelinelaw06_ColumnBack.j2 kj15 a0 a2 l3 t1123 t1124 (decide (a2 > 65536)))))) = some r := H
              have A32 := Aside0.mk A320
              clear A320
              have HC33 := Aside0.mk H
              clear H
              go_upto_region 11 with (first | ((with_reducible refine gate_callee (f := 58) rfl ?_); refine goesL_ (some 66) rfl rfl Try.func58 (by kernel_rfl) rfl #[.int .u8 a0, .slice A3 l3.length c3, .int .i64 a2] rfl (by (try simp only [List.map_toArray, List.map_cons, List.map_nil]); first | done | rfl | (simp only [List.length_drop, List.length_take]; rfl)) ?_; (with_reducible refine (column_Get.calls a0 _ _ l3 a2 t1123 t1124 _ ?side1 ?side2 A32.out).mono ?_); (case side1 => repeat (first | exact (Kd.C_below HR3.out HB.out) | (with_reducible refine Kd.C_alloc ?_ _) | (with_reducible refine Kd.C_drewN ?_ _) | (with_reducible refine Kd.C_drew ?_))); (case side2 => exact HC3.out); rintro e w34 ⟨v1125, rfl, ho0, hb⟩; refine ⟨_, rfl, ?_⟩; have n0_ := Aside0.mk (Kd.R_lower ho0 (below_size (by repeat (first | (with_reducible first | exact HB.out | apply below_alloc | apply pw_below_drewN | apply below_drew1) | exact HB.out)))); have n1_ := Aside0.mk (below_step (by repeat (first | (with_reducible first | exact HB.out | apply below_alloc | apply pw_below_drewN | apply below_drew1) | exact HB.out)) hb); clear HB; have HO1126 := n0_; have HB := n1_; clear n0_ n1_; (try clear hb); (try clear hb2); (try clear hk); (try clear hi); (try clear ho0)))
              (try simp only [Act.put, List.setIfInBounds_toArray, List.set_cons_zero, List.set_cons_succ])
              go_cut [82] (fun v82 wc => ∃ (kq : Nat) (x82_32 : Bool), v82 = .bool x82_32 ∧ Aside0 (tidelinelaw06_ColumnBack.j2 kq a0 a2 l3 t1123 t1124 x82_32 = some r) ∧ Aside0 (kq ≤ kj15) ∧ Aside0 (Kd.R k39 39 wc w.heap.size (fun _ => True) v1125 t1123) ∧ Aside0 (Below w.heap.size w wc))
              case first =>
                have H := HC33.out
                clear HC33
                by_cases c35 : a0 < 1
                · rw [if_pos c35] at H
                  have c35b0 : decide (a0 < 1) = true := decide_eq_true c35
                  clear c35
                  (first | rw [c35b0] | (simp only [i64_w, i32_w]; rw [c35b0]) | skip)
                  have H' := Aside0.mk H
                  clear H
                  go_wp2
                  go_meet
                  case rel => exact ⟨_, (true), (by first | rfl | (simp; done) | (simp [*]; done)), H', ⟨by have := HJ4.out; have := HJ15.out; first | omega | exact Nat.le_refl _⟩, ⟨by (with_reducible repeat (first | apply Kd.R_alloc | apply Kd.R_drewN | apply Kd.R_drew)); exact HO1126.out⟩, ⟨by repeat (first | (with_reducible first | exact HB.out | apply below_alloc | apply pw_below_drewN | apply below_drew1) | exact HB.out)⟩⟩
                · rw [if_neg c35] at H
                  have c35b0 : decide (a0 < 1) = false := decide_eq_false c35
                  clear c35
                  (first | rw [c35b0] | (simp only [i64_w, i32_w]; rw [c35b0]) | skip)
                  by_cases c36 : a0 > 3
                  · rw [if_pos c36] at H
                    have c36b0 : decide (3 < a0) = true := decide_eq_true c36
                    clear c36
                    have H' := Aside0.mk H
                    clear H
                    go_wp2
                    go_meet
                    case rel => exact ⟨_, (true), (by first | rfl | (simp; done) | (simp [*]; done)), H', ⟨by have := HJ4.out; have := HJ15.out; first | omega | exact Nat.le_refl _⟩, ⟨by (with_reducible repeat (first | apply Kd.R_alloc | apply Kd.R_drewN | apply Kd.R_drew)); exact HO1126.out⟩, ⟨by repeat (first | (with_reducible first | exact HB.out | apply below_alloc | apply pw_below_drewN | apply below_drew1) | exact HB.out)⟩⟩
                  · rw [if_neg c36] at H
                    have c36b0 : decide (3 < a0) = false := decide_eq_false c36
                    clear c36
                    by_cases c37 : a2 < 0
                    · rw [if_pos c37] at H
                      have c37b0 : decide (a2 < 0) = true := decide_eq_true c37
                      clear c37
                      have H' := Aside0.mk H
                      clear H
                      go_wp2
                      go_meet
                      case rel => exact ⟨_, (true), (by first | rfl | (simp; done) | (simp [*]; done)), H', ⟨by have := HJ4.out; have := HJ15.out; first | omega | exact Nat.le_refl _⟩, ⟨by (with_reducible repeat (first | apply Kd.R_alloc | apply Kd.R_drewN | apply Kd.R_drew)); exact HO1126.out⟩, ⟨by repeat (first | (with_reducible first | exact HB.out | apply below_alloc | apply pw_below_drewN | apply below_drew1) | exact HB.out)⟩⟩
                    · rw [if_neg c37] at H
                      have c37b0 : decide (a2 < 0) = false := decide_eq_false c37
                      clear c37
                      have H' := Aside0.mk H
                      clear H
                      go_wp2
                      go_meet
                      case rel => exact ⟨_, (decide (a2 > 65536)), (by first | rfl | (simp; done) | (simp [*]; done)), H', ⟨by have := HJ4.out; have := HJ15.out; first | omega | exact Nat.le_refl _⟩, ⟨by (with_reducible repeat (first | apply Kd.R_alloc | apply Kd.R_drewN | apply Kd.R_drew)); exact HO1126.out⟩, ⟨by repeat (first | (with_reducible first | exact HB.out | apply below_alloc | apply pw_below_drewN | apply below_drew1) | exact HB.out)⟩⟩
              case rest =>
                clear HC33
                try clear c1
                try clear c2
                try clear p2
                try clear c3
                try clear c5
                try clear c6
                try clear c7
                try clear c8
                try clear c8b0
                try clear c8b1
                try clear c9
                try clear c9b0
                try clear c10
                try clear c13
                try clear c13b0
                try clear c13b1
                try clear c13b2
                try clear c19
                try clear c19b0
                try clear c19b1
                try clear c21
                try clear c21b0
                try clear c21b1
                try clear c23
                try clear c35
                try clear c35b0
                try clear c36
                try clear c36b0
                try clear c37
                try clear c37b0
                try clear p2
                obtain ⟨kq, x82_32, rfl, HA, HJ32, HO_13, HB⟩ := hcut
                cases kq with
                | zero => exact absurd HA.out (by simp [tidelinelaw06_ColumnBack.j2])
                | succ kj32 =>
                  have H := HA.out
                  clear HA
                  simp only [tidelinelaw06_ColumnBack.j2] at H
                  by_cases c38 : x82_32 = true
                  · subst c38
                    have H1 : (if t1124 = 1 then (if (t1123.length : Int) = 0 then ((tidelinelaw06_puts.f).bind fun t1127 => (some t1127)) else (some false)) else (some false)) = some r := by rw [if_pos rfl] at H; exact H
                    clear H
                    have H := H1
                    clear H1
                    by_cases c39 : t1124 = 1
                    · rw [if_pos c39] at H
                      have c39b0 : (t1124 == 1) = true := beq_iff_eq.mpr c39
                      have c39b1 : (t1124 != 1) = false := bne_eq_false_iff_eq.mpr c39
                      clear c39
                      by_cases c40 : (t1123.length : Int) = 0
                      · rw [if_pos c40] at H
                        have c40b0 : ((t1123.length : Int) == 0) = true := beq_iff_eq.mpr c40
                        have c40b1 : ((t1123.length : Int) != 0) = false := bne_eq_false_iff_eq.mpr c40
                        clear c40
                        replace H := Option.bind_eq_some_iff.mp H
                        obtain ⟨t1127, A410, H⟩ := H
                        replace H : (some t1127) = some r := H
                        have A41 := Aside0.mk A410
                        clear A410
                        obtain rfl := Option.some.inj H
                        obtain ⟨Ao42, co42, eo42⟩ := Kd.R_slice HO_13.out
                        subst eo42
                        go_wp2_with (first | (go_at_call 57; (with_reducible refine (tidelinelaw06_puts.calls  t1127 _ A41.out).mono ?_); rintro e w43 ⟨rfl, hb⟩; have n0_ := Aside0.mk (Kd.R_below (by (with_reducible repeat (first | apply Kd.R_alloc | apply Kd.R_drewN | apply Kd.R_drew)); exact HO_13.out) hb); have n1_ := Aside0.mk (below_step (by repeat (first | (with_reducible first | exact HB.out | apply below_alloc | apply pw_below_drewN | apply below_drew1) | exact HB.out)) hb); clear HO_13; clear HB; have HO_13 := n0_; have HB := n1_; clear n0_ n1_; (try clear hb); (try clear hb2); (try clear hk); (try clear hi)))
                        go_ret
                        exact ⟨by first | rfl | (simp [errW_none, errW_some] <;> rfl) | (simp [*, errW_none, errW_some] <;> rfl), by repeat (first | (with_reducible first | exact HB.out | apply below_alloc | apply pw_below_drewN | apply below_drew1) | exact HB.out)⟩
                      · rw [if_neg c40] at H
                        have c40b0 : ((t1123.length : Int) == 0) = false := beq_eq_false_iff_ne.mpr c40
                        have c40b1 : ((t1123.length : Int) != 0) = true := bne_iff_ne.mpr c40
                        have c40b2 : ¬ (t1123 = []) := fun h_ => c40 (by rw [h_]; rfl)
                        obtain rfl := Option.some.inj H
                        obtain ⟨Ao44, co44, eo44⟩ := Kd.R_slice HO_13.out
                        subst eo44
                        go_wp2
                        go_ret
                        exact ⟨by first | rfl | (simp [errW_none, errW_some] <;> rfl) | (simp [*, errW_none, errW_some] <;> rfl), by repeat (first | (with_reducible first | exact HB.out | apply below_alloc | apply pw_below_drewN | apply below_drew1) | exact HB.out)⟩
                    · rw [if_neg c39] at H
                      have c39b0 : (t1124 == 1) = false := beq_eq_false_iff_ne.mpr c39
                      have c39b1 : (t1124 != 1) = true := bne_iff_ne.mpr c39
                      obtain rfl := Option.some.inj H
                      go_wp2
                      go_ret
                      exact ⟨by first | rfl | (simp [errW_none, errW_some] <;> rfl) | (simp [*, errW_none, errW_some] <;> rfl), by repeat (first | (with_reducible first | exact HB.out | apply below_alloc | apply pw_below_drewN | apply below_drew1) | exact HB.out)⟩
                  · replace c38 := Bool.eq_false_iff.mpr c38
                    subst c38
                    have H1 : (if t1124 = 0 then ((column_Put.f a0 t1123).bind fun bt1128 => (if bt1128.2 = 0 then (if (t1123.length : Int) = a2 then (if (strOfNums bt1128.1).toList = (strOfNums l3).toList then ((tidelinelaw06_puts.f).bind fun t1132 => (some t1132)) else (some false)) else (some false)) else (some false))) else (if (t1123.length : Int) = 0 then (if t1124 = 20 then ((tidelinelaw06_puts.f).bind fun t1133 => (some t1133)) else (if t1124 = 21 then ((tidelinelaw06_puts.f).bind fun t1134 => (some t1134)) else (some false))) else (some false))) = some r := by rw [if_neg (show ¬ (false = true) by decide)] at H; exact H
                    clear H
                    have H := H1
                    clear H1
                    by_cases c45 : t1124 = 0
                    · rw [if_pos c45] at H
                      have c45b0 : (t1124 == 0) = true := beq_iff_eq.mpr c45
                      have c45b1 : (t1124 != 0) = false := bne_eq_false_iff_eq.mpr c45
                      clear c45
                      replace H := Option.bind_eq_some_iff.mp H
                      obtain ⟨⟨t1128, t1129⟩, A460, H⟩ := H
                      replace H : (if t1129 = 0 then (if (t1123.length : Int) = a2 then (if (strOfNums t1128).toList = (strOfNums l3).toList then ((tidelinelaw06_puts.f).bind fun t1132 => (some t1132)) else (some false)) else (some false)) else (some false)) = some r := H
                      have A46 := Aside0.mk A460
                      clear A460
                      by_cases c47 : t1129 = 0
                      · rw [if_pos c47] at H
                        have c47b0 : (t1129 == 0) = true := beq_iff_eq.mpr c47
                        have c47b1 : (t1129 != 0) = false := bne_eq_false_iff_eq.mpr c47
                        clear c47
                        by_cases c48 : (t1123.length : Int) = a2
                        · rw [if_pos c48] at H
                          have c48b0 : ((t1123.length : Int) == a2) = true := beq_iff_eq.mpr c48
                          have c48b1 : ((t1123.length : Int) != a2) = false := bne_eq_false_iff_eq.mpr c48
                          clear c48
                          by_cases c49 : (strOfNums t1128).toList = (strOfNums l3).toList
                          · rw [if_pos c49] at H
                            have c49b0 : ((strOfNums t1128).toList == (strOfNums l3).toList) = true := beq_iff_eq.mpr c49
                            have c49b1 : ((strOfNums t1128).toList != (strOfNums l3).toList) = false := bne_eq_false_iff_eq.mpr c49
                            clear c49
                            replace H := Option.bind_eq_some_iff.mp H
                            obtain ⟨t1132, A500, H⟩ := H
                            replace H : (some t1132) = some r := H
                            have A50 := Aside0.mk A500
                            clear A500
                            obtain rfl := Option.some.inj H
                            obtain ⟨Ao51, co51, eo51⟩ := Kd.R_slice HO_13.out
                            subst eo51
                            go_wp2_with (first | ((with_reducible refine gate_callee (f := 55) rfl ?_); refine goesL_ (some 112) rfl rfl Try.func55 (by kernel_rfl) rfl #[.int .u8 a0, .slice Ao51 t1123.length co51] rfl (by (try simp only [List.map_toArray, List.map_cons, List.map_nil]); first | done | rfl | (simp only [List.length_drop, List.length_take]; rfl)) ?_; (with_reducible refine (column_Put.calls a0 _ _ t1123 t1128 t1129 _ ?side1 ?side2 A46.out).mono ?_); (case side1 => repeat (first | exact (Kd.R_reads' HO_13.out).2.2 | (with_reducible refine Kd.C_alloc ?_ _) | (with_reducible refine Kd.C_drewN ?_ _) | (with_reducible refine Kd.C_drew ?_))); (case side2 => exact (Kd.R_reads' HO_13.out).2.1); rintro e w52 ⟨v1130, rfl, ho0, hb⟩; refine ⟨_, rfl, ?_⟩; have n0_ := Aside0.mk (Kd.R_below (by (with_reducible repeat (first | apply Kd.R_alloc | apply Kd.R_drewN | apply Kd.R_drew)); exact HO_13.out) hb); have n1_ := Aside0.mk (Kd.R_lower ho0 (below_size (by repeat (first | (with_reducible first | exact HB.out | apply below_alloc | apply pw_below_drewN | apply below_drew1) | exact HB.out)))); have n2_ := Aside0.mk (below_step (by repeat (first | (with_reducible first | exact HB.out | apply below_alloc | apply pw_below_drewN | apply below_drew1) | exact HB.out)) hb); clear HO_13; clear HB; have HO_13 := n0_; have HO1131 := n1_; have HB := n2_; clear n0_ n1_ n2_; (try clear hb); (try clear hb2); (try clear hk); (try clear hi); (try clear ho0); have hcv53 := own_string (P := Try.prog) Try.underlying22 Try.underlying5 Try.underlying9 (Kd.own_of_R HO1131.out); have hcv54 := Kd.C_string (P := Try.prog) (A := A3) (c := c3) Try.underlying22 Try.underlying5 Try.underlying9 (Kd.C_below HR3.out HB.out)) | (go_at_call 57; (with_reducible refine (tidelinelaw06_puts.calls  t1132 _ A50.out).mono ?_); rintro e w55 ⟨rfl, hb⟩; have n0_ := Aside0.mk (Kd.R_below (by (with_reducible repeat (first | apply Kd.R_alloc | apply Kd.R_drewN | apply Kd.R_drew)); exact HO_13.out) hb); have n1_ := Aside0.mk (Kd.R_below (by (with_reducible repeat (first | apply Kd.R_alloc | apply Kd.R_drewN | apply Kd.R_drew)); exact HO1131.out) hb); have n2_ := Aside0.mk (below_step (by repeat (first | (with_reducible first | exact HB.out | apply below_alloc | apply pw_below_drewN | apply below_drew1) | exact HB.out)) hb); clear HO_13; clear HO1131; clear HB; have HO_13 := n0_; have HO1131 := n1_; have HB := n2_; clear n0_ n1_ n2_; (try clear hb); (try clear hb2); (try clear hk); (try clear hi)))
                            go_ret
                            exact ⟨by first | rfl | (simp [errW_none, errW_some] <;> rfl) | (simp [*, errW_none, errW_some] <;> rfl), by repeat (first | (with_reducible first | exact HB.out | apply below_alloc | apply pw_below_drewN | apply below_drew1) | exact HB.out)⟩
                          · rw [if_neg c49] at H
                            have c49b0 : ((strOfNums t1128).toList == (strOfNums l3).toList) = false := beq_eq_false_iff_ne.mpr c49
                            have c49b1 : ((strOfNums t1128).toList != (strOfNums l3).toList) = true := bne_iff_ne.mpr c49
                            obtain rfl := Option.some.inj H
                            obtain ⟨Ao56, co56, eo56⟩ := Kd.R_slice HO_13.out
                            subst eo56
                            go_wp2_with (first | ((with_reducible refine gate_callee (f := 55) rfl ?_); refine goesL_ (some 112) rfl rfl Try.func55 (by kernel_rfl) rfl #[.int .u8 a0, .slice Ao56 t1123.length co56] rfl (by (try simp only [List.map_toArray, List.map_cons, List.map_nil]); first | done | rfl | (simp only [List.length_drop, List.length_take]; rfl)) ?_; (with_reducible refine (column_Put.calls a0 _ _ t1123 t1128 t1129 _ ?side1 ?side2 A46.out).mono ?_); (case side1 => repeat (first | exact (Kd.R_reads' HO_13.out).2.2 | (with_reducible refine Kd.C_alloc ?_ _) | (with_reducible refine Kd.C_drewN ?_ _) | (with_reducible refine Kd.C_drew ?_))); (case side2 => exact (Kd.R_reads' HO_13.out).2.1); rintro e w57 ⟨v1130, rfl, ho0, hb⟩; refine ⟨_, rfl, ?_⟩; have n0_ := Aside0.mk (Kd.R_below (by (with_reducible repeat (first | apply Kd.R_alloc | apply Kd.R_drewN | apply Kd.R_drew)); exact HO_13.out) hb); have n1_ := Aside0.mk (Kd.R_lower ho0 (below_size (by repeat (first | (with_reducible first | exact HB.out | apply below_alloc | apply pw_below_drewN | apply below_drew1) | exact HB.out)))); have n2_ := Aside0.mk (below_step (by repeat (first | (with_reducible first | exact HB.out | apply below_alloc | apply pw_below_drewN | apply below_drew1) | exact HB.out)) hb); clear HO_13; clear HB; have HO_13 := n0_; have HO1131 := n1_; have HB := n2_; clear n0_ n1_ n2_; (try clear hb); (try clear hb2); (try clear hk); (try clear hi); (try clear ho0); have hcv58 := own_string (P := Try.prog) Try.underlying22 Try.underlying5 Try.underlying9 (Kd.own_of_R HO1131.out); have hcv59 := Kd.C_string (P := Try.prog) (A := A3) (c := c3) Try.underlying22 Try.underlying5 Try.underlying9 (Kd.C_below HR3.out HB.out)))
                            go_ret
                            exact ⟨by first | rfl | (simp [errW_none, errW_some] <;> rfl) | (simp [*, errW_none, errW_some] <;> rfl), by repeat (first | (with_reducible first | exact HB.out | apply below_alloc | apply pw_below_drewN | apply below_drew1) | exact HB.out)⟩
                        · rw [if_neg c48] at H
                          have c48b0 : ((t1123.length : Int) == a2) = false := beq_eq_false_iff_ne.mpr c48
                          have c48b1 : ((t1123.length : Int) != a2) = true := bne_iff_ne.mpr c48
                          obtain rfl := Option.some.inj H
                          obtain ⟨Ao60, co60, eo60⟩ := Kd.R_slice HO_13.out
                          subst eo60
                          go_wp2_with (first | ((with_reducible refine gate_callee (f := 55) rfl ?_); refine goesL_ (some 112) rfl rfl Try.func55 (by kernel_rfl) rfl #[.int .u8 a0, .slice Ao60 t1123.length co60] rfl (by (try simp only [List.map_toArray, List.map_cons, List.map_nil]); first | done | rfl | (simp only [List.length_drop, List.length_take]; rfl)) ?_; (with_reducible refine (column_Put.calls a0 _ _ t1123 t1128 t1129 _ ?side1 ?side2 A46.out).mono ?_); (case side1 => repeat (first | exact (Kd.R_reads' HO_13.out).2.2 | (with_reducible refine Kd.C_alloc ?_ _) | (with_reducible refine Kd.C_drewN ?_ _) | (with_reducible refine Kd.C_drew ?_))); (case side2 => exact (Kd.R_reads' HO_13.out).2.1); rintro e w61 ⟨v1130, rfl, ho0, hb⟩; refine ⟨_, rfl, ?_⟩; have n0_ := Aside0.mk (Kd.R_below (by (with_reducible repeat (first | apply Kd.R_alloc | apply Kd.R_drewN | apply Kd.R_drew)); exact HO_13.out) hb); have n1_ := Aside0.mk (Kd.R_lower ho0 (below_size (by repeat (first | (with_reducible first | exact HB.out | apply below_alloc | apply pw_below_drewN | apply below_drew1) | exact HB.out)))); have n2_ := Aside0.mk (below_step (by repeat (first | (with_reducible first | exact HB.out | apply below_alloc | apply pw_below_drewN | apply below_drew1) | exact HB.out)) hb); clear HO_13; clear HB; have HO_13 := n0_; have HO1131 := n1_; have HB := n2_; clear n0_ n1_ n2_; (try clear hb); (try clear hb2); (try clear hk); (try clear hi); (try clear ho0)))
                          go_ret
                          exact ⟨by first | rfl | (simp [errW_none, errW_some] <;> rfl) | (simp [*, errW_none, errW_some] <;> rfl), by repeat (first | (with_reducible first | exact HB.out | apply below_alloc | apply pw_below_drewN | apply below_drew1) | exact HB.out)⟩
                      · rw [if_neg c47] at H
                        have c47b0 : (t1129 == 0) = false := beq_eq_false_iff_ne.mpr c47
                        have c47b1 : (t1129 != 0) = true := bne_iff_ne.mpr c47
                        obtain rfl := Option.some.inj H
                        obtain ⟨Ao62, co62, eo62⟩ := Kd.R_slice HO_13.out
                        subst eo62
                        go_wp2_with (first | ((with_reducible refine gate_callee (f := 55) rfl ?_); refine goesL_ (some 112) rfl rfl Try.func55 (by kernel_rfl) rfl #[.int .u8 a0, .slice Ao62 t1123.length co62] rfl (by (try simp only [List.map_toArray, List.map_cons, List.map_nil]); first | done | rfl | (simp only [List.length_drop, List.length_take]; rfl)) ?_; (with_reducible refine (column_Put.calls a0 _ _ t1123 t1128 t1129 _ ?side1 ?side2 A46.out).mono ?_); (case side1 => repeat (first | exact (Kd.R_reads' HO_13.out).2.2 | (with_reducible refine Kd.C_alloc ?_ _) | (with_reducible refine Kd.C_drewN ?_ _) | (with_reducible refine Kd.C_drew ?_))); (case side2 => exact (Kd.R_reads' HO_13.out).2.1); rintro e w63 ⟨v1130, rfl, ho0, hb⟩; refine ⟨_, rfl, ?_⟩; have n0_ := Aside0.mk (Kd.R_below (by (with_reducible repeat (first | apply Kd.R_alloc | apply Kd.R_drewN | apply Kd.R_drew)); exact HO_13.out) hb); have n1_ := Aside0.mk (Kd.R_lower ho0 (below_size (by repeat (first | (with_reducible first | exact HB.out | apply below_alloc | apply pw_below_drewN | apply below_drew1) | exact HB.out)))); have n2_ := Aside0.mk (below_step (by repeat (first | (with_reducible first | exact HB.out | apply below_alloc | apply pw_below_drewN | apply below_drew1) | exact HB.out)) hb); clear HO_13; clear HB; have HO_13 := n0_; have HO1131 := n1_; have HB := n2_; clear n0_ n1_ n2_; (try clear hb); (try clear hb2); (try clear hk); (try clear hi); (try clear ho0)))
                        go_ret
                        exact ⟨by first | rfl | (simp [errW_none, errW_some] <;> rfl) | (simp [*, errW_none, errW_some] <;> rfl), by repeat (first | (with_reducible first | exact HB.out | apply below_alloc | apply pw_below_drewN | apply below_drew1) | exact HB.out)⟩
                    · rw [if_neg c45] at H
                      have c45b0 : (t1124 == 0) = false := beq_eq_false_iff_ne.mpr c45
                      have c45b1 : (t1124 != 0) = true := bne_iff_ne.mpr c45
                      by_cases c64 : (t1123.length : Int) = 0
                      · rw [if_pos c64] at H
                        have c64b0 : ((t1123.length : Int) == 0) = true := beq_iff_eq.mpr c64
                        have c64b1 : ((t1123.length : Int) != 0) = false := bne_eq_false_iff_eq.mpr c64
                        clear c64
                        by_cases c65 : t1124 = 20
                        · rw [if_pos c65] at H
                          have c65b0 : (t1124 == 20) = true := beq_iff_eq.mpr c65
                          have c65b1 : (t1124 != 20) = false := bne_eq_false_iff_eq.mpr c65
                          clear c65
                          replace H := Option.bind_eq_some_iff.mp H
                          obtain ⟨t1133, A660, H⟩ := H
                          replace H : (some t1133) = some r := H
                          have A66 := Aside0.mk A660
                          clear A660
                          obtain rfl := Option.some.inj H
                          obtain ⟨Ao67, co67, eo67⟩ := Kd.R_slice HO_13.out
                          subst eo67
                          go_wp2_with (first | (go_at_call 57; (with_reducible refine (tidelinelaw06_puts.calls  t1133 _ A66.out).mono ?_); rintro e w68 ⟨rfl, hb⟩; have n0_ := Aside0.mk (Kd.R_below (by (with_reducible repeat (first | apply Kd.R_alloc | apply Kd.R_drewN | apply Kd.R_drew)); exact HO_13.out) hb); have n1_ := Aside0.mk (below_step (by repeat (first | (with_reducible first | exact HB.out | apply below_alloc | apply pw_below_drewN | apply below_drew1) | exact HB.out)) hb); clear HO_13; clear HB; have HO_13 := n0_; have HB := n1_; clear n0_ n1_; (try clear hb); (try clear hb2); (try clear hk); (try clear hi)))
                          go_ret
                          exact ⟨by first | rfl | (simp [errW_none, errW_some] <;> rfl) | (simp [*, errW_none, errW_some] <;> rfl), by repeat (first | (with_reducible first | exact HB.out | apply below_alloc | apply pw_below_drewN | apply below_drew1) | exact HB.out)⟩
                        · rw [if_neg c65] at H
                          have c65b0 : (t1124 == 20) = false := beq_eq_false_iff_ne.mpr c65
                          have c65b1 : (t1124 != 20) = true := bne_iff_ne.mpr c65
                          by_cases c69 : t1124 = 21
                          · rw [if_pos c69] at H
                            have c69b0 : (t1124 == 21) = true := beq_iff_eq.mpr c69
                            have c69b1 : (t1124 != 21) = false := bne_eq_false_iff_eq.mpr c69
                            clear c69
                            replace H := Option.bind_eq_some_iff.mp H
                            obtain ⟨t1134, A700, H⟩ := H
                            replace H : (some t1134) = some r := H
                            have A70 := Aside0.mk A700
                            clear A700
                            obtain rfl := Option.some.inj H
                            obtain ⟨Ao71, co71, eo71⟩ := Kd.R_slice HO_13.out
                            subst eo71
                            go_wp2_with (first | (go_at_call 57; (with_reducible refine (tidelinelaw06_puts.calls  t1134 _ A70.out).mono ?_); rintro e w72 ⟨rfl, hb⟩; have n0_ := Aside0.mk (Kd.R_below (by (with_reducible repeat (first | apply Kd.R_alloc | apply Kd.R_drewN | apply Kd.R_drew)); exact HO_13.out) hb); have n1_ := Aside0.mk (below_step (by repeat (first | (with_reducible first | exact HB.out | apply below_alloc | apply pw_below_drewN | apply below_drew1) | exact HB.out)) hb); clear HO_13; clear HB; have HO_13 := n0_; have HB := n1_; clear n0_ n1_; (try clear hb); (try clear hb2); (try clear hk); (try clear hi)))
                            go_ret
                            exact ⟨by first | rfl | (simp [errW_none, errW_some] <;> rfl) | (simp [*, errW_none, errW_some] <;> rfl), by repeat (first | (with_reducible first | exact HB.out | apply below_alloc | apply pw_below_drewN | apply below_drew1) | exact HB.out)⟩
                          · rw [if_neg c69] at H
                            have c69b0 : (t1124 == 21) = false := beq_eq_false_iff_ne.mpr c69
                            have c69b1 : (t1124 != 21) = true := bne_iff_ne.mpr c69
                            obtain rfl := Option.some.inj H
                            obtain ⟨Ao73, co73, eo73⟩ := Kd.R_slice HO_13.out
                            subst eo73
                            go_wp2
                            go_ret
                            exact ⟨by first | rfl | (simp [errW_none, errW_some] <;> rfl) | (simp [*, errW_none, errW_some] <;> rfl), by repeat (first | (with_reducible first | exact HB.out | apply below_alloc | apply pw_below_drewN | apply below_drew1) | exact HB.out)⟩
                      · rw [if_neg c64] at H
                        have c64b0 : ((t1123.length : Int) == 0) = false := beq_eq_false_iff_ne.mpr c64
                        have c64b1 : ((t1123.length : Int) != 0) = true := bne_iff_ne.mpr c64
                        have c64b2 : ¬ (t1123 = []) := fun h_ => c64 (by rw [h_]; rfl)
                        obtain rfl := Option.some.inj H
                        obtain ⟨Ao74, co74, eo74⟩ := Kd.R_slice HO_13.out
                        subst eo74
                        go_wp2
                        go_ret
                        exact ⟨by first | rfl | (simp [errW_none, errW_some] <;> rfl) | (simp [*, errW_none, errW_some] <;> rfl), by repeat (first | (with_reducible first | exact HB.out | apply below_alloc | apply pw_below_drewN | apply below_drew1) | exact HB.out)⟩

end Go.Proofs.Ytlmcefhpnfoahaa.P
end

section
namespace Go.Proofs.Ytlmcefhpnfoahaa.P
open Go.RowKit Go.Proofs.YtlmcefhpnfoahaaW.PrintWords Go.Proofs.YtlmcefhpnfoahaaW.PrintLast Go.Proofs.YtlmcefhpnfoahaaW.PrintMore
set_option linter.unusedVariables false
set_option linter.unusedSimpArgs false

theorem colBack_j2 (k : Nat) (kind n : Int) (b : List Int) (hb : b.length ≤ 1000) (hby : ∀ x ∈ b, isByte x = true) (q : Bool) (hq : q = decide ¬ (kindB kind = true ∧ 0 ≤ n ∧ n ≤ 65536)) :
    tidelinelaw06_ColumnBack.j2 (k + 1) kind n b (getColI kind b n).1 (getColI kind b n).2 q = some true := by
  subst hq
  rw [tidelinelaw06_ColumnBack.j2]
  by_cases h : kindB kind = true ∧ 0 ≤ n ∧ n ≤ 65536
  · rw [if_neg (by simp [h])]
    have hk := (kindB_iff kind).mp h.1
    have e : getColI kind b n = getCol kind b n.toNat := by unfold getColI; rw [if_pos h]
    rw [e]
    by_cases he : (getCol kind b n.toNat).2 = 0
    · obtain ⟨g1, g2, g3, g4⟩ := enc_getCol kind hk b n.toNat hby he
      have hn : (getCol kind b n.toNat).1.all okNum = true := by rw [List.all_eq_true]; intro x hx; exact (g4 x hx).1
      have ep : putCol kind (getCol kind b n.toNat).1 = (b, 0) := by
        unfold putCol
        rw [if_pos ⟨h.1, by omega, g1⟩, g2]
      rw [if_pos he, colPut_f kind _ (by omega) hn (fun x hx => by have := (g4 x hx).2; omega), Option.bind_some, ep, if_pos rfl, if_pos (by omega), if_pos rfl]
      rfl
    · obtain ⟨g1, g2⟩ := getCol_bad kind b n.toNat he
      rw [if_neg he, g1, if_pos (by rfl)]
      rcases g2 with g2 | g2
      · rw [g2, if_pos rfl]; rfl
      · rw [g2, if_neg (by decide), if_pos rfl]; rfl
  · have e : getColI kind b n = ([], 1) := by unfold getColI; rw [if_neg h]
    rw [if_pos (by simp only [decide_not, Bool.not_eq_true', decide_eq_false_iff_not]; exact h), e, if_pos rfl, if_pos (by rfl)]
    rfl
theorem colBack_j1 (k : Nat) (kind n : Int) (b : List Int) (hb : b.length ≤ 1000) (hby : ∀ x ∈ b, isByte x = true) : tidelinelaw06_ColumnBack.j1 (k + 2) kind n b = some true := by
  have hkb := kindB_iff kind
  unfold isKind at hkb
  rw [tidelinelaw06_ColumnBack.j1, colGet_f kind b n (by omega) hby, Option.bind_some]
  have hj := colBack_j2 k kind n b hb hby
  by_cases h1 : kind < 1
  · rw [if_pos h1]
    exact hj true (by rw [eq_comm, decide_eq_true_iff]; intro h; have := hkb.mp h.1; omega)
  · rw [if_neg h1]
    by_cases h2 : kind > 3
    · rw [if_pos h2]
      exact hj true (by rw [eq_comm, decide_eq_true_iff]; intro h; have := hkb.mp h.1; omega)
    · rw [if_neg h2]
      by_cases h3 : n < 0
      · rw [if_pos h3]
        exact hj true (by rw [eq_comm, decide_eq_true_iff]; intro h; omega)
      · rw [if_neg h3]
        refine hj _ ?_
        rw [decide_eq_decide]
        have hkk : kindB kind = true := hkb.mpr (by omega)
        constructor
        · intro h4 h5; omega
        · intro h4
          by_cases h5 : n > 65536
          · exact h5
          · exact absurd ⟨hkk, by omega, by omega⟩ h4
theorem colBack_j0 (k : Nat) (kind n : Int) (l : List S39) (b : List Int) (hk : 600 ≤ k) (hw : ∀ x ∈ l, okVal x) (hby : ∀ x ∈ b, isByte x = true) (q : Bool) (hq : q = false → (l.length ≤ 500 ∧ ∀ x ∈ l, x.f2.size ≤ 300) ∧ b.length ≤ 1000) :
    tidelinelaw06_ColumnBack.j0 (k + 3) kind l n b q = some true := by
  cases q with
  | true => rw [tidelinelaw06_ColumnBack.j0, if_pos rfl]
  | false =>
    obtain ⟨⟨h1, h2⟩, h3⟩ := hq rfl
    have hn := okNum_of l hw
    have h0 : ∀ x ∈ l, 0 ≤ x.f0 := fun x hx => (hw x hx).1.1
    have hj1 := colBack_j1 k kind n b h3 hby
    rw [tidelinelaw06_ColumnBack.j0, if_neg (by decide), colPut_f kind l (by omega) hn (fun x hx => by have := h2 x hx; omega), Option.bind_some, refCol_f kind l (by omega) h0 _ (by omega), Option.bind_some]
    by_cases hf : kindB kind = true ∧ l.length ≤ 65536 ∧ fitCol kind l = true
    · have e : putCol kind l = (encCol kind l, 0) := by unfold putCol; rw [if_pos hf]
      have hk := (kindB_iff kind).mp hf.1
      have ho : ∀ x ∈ l, okV x := fun x hx => ⟨by rw [List.all_eq_true] at hn; exact hn x hx, by have := h2 x hx; omega⟩
      have hle := encCol_le kind l h1 h2
      have hg := getCol_enc kind hk l hf.2.2 ho (by omega) []
      rw [List.append_nil, if_pos rfl] at hg
      have hgi : getColI kind (encCol kind l) (l.length : Int) = (l, 0) := by
        unfold getColI
        rw [if_pos ⟨hf.1, by omega, by omega⟩, Int.toNat_natCast, hg]
      rw [e, decide_eq_true hf, if_neg (by simp), if_pos rfl, colGet_f kind _ _ (by omega) (encCol_bytes kind l (by omega) ho), Option.bind_some, hgi, if_pos rfl, same_self_k l (by unfold maxLen; omega) _ (by omega), Option.bind_some, if_pos rfl]
      exact hj1
    · have e : putCol kind l = ([], 1) := by unfold putCol; rw [if_neg hf]
      rw [e, decide_eq_false hf, if_neg (by decide), if_neg (by decide)]
      exact hj1
theorem colBack_f (kind n : Int) (l : List S39) (b : List Int) (hw : ∀ x ∈ l, okVal x) (hby : ∀ x ∈ b, isByte x = true) : tidelinelaw06_ColumnBack.f 603 kind l n b = some true := by
  unfold tidelinelaw06_ColumnBack.f
  obtain ⟨r, hr, hp⟩ := long6_k l 603 (by decide)
  rw [hr, Option.bind_some]
  cases r with
  | true =>
    rw [if_pos rfl]
    exact colBack_j0 600 kind n l b (Nat.le_refl _) hw hby true (fun h => by cases h)
  | false =>
    rw [if_neg (by decide)]
    by_cases h1 : (b.length : Int) > 1000
    · rw [if_pos h1]
      exact colBack_j0 600 kind n l b (Nat.le_refl _) hw hby true (fun h => by cases h)
    · rw [if_neg h1]
      by_cases h2 : n > 2000
      · rw [if_pos h2]
        exact colBack_j0 600 kind n l b (Nat.le_refl _) hw hby _ (fun hq => ⟨hp rfl, by omega⟩)
      · rw [if_neg h2]
        exact colBack_j0 600 kind n l b (Nat.le_refl _) hw hby false (fun hq => ⟨hp rfl, by omega⟩)
theorem walk_ColumnBack (a0 : Int) (A1 : Option Addr) (c1 : Nat) (l1 : List S39) (a2 : Int) (A3 : Option Addr) (c3 : Nat) (l3 : List Int) (w : World) (hw0 : (Lit.int .u8 a0).wf = true)
    (hr1 : Kd.C k39 w A1 l1.length l1) (hc1 : l1.length ≤ c1) (hm1 : l1.length ≤ maxLen) (hw1 : ∀ x ∈ l1, okVal x) (hw2 : (Lit.int .i64 a2).wf = true)
    (hr3 : Kd.C (Kd.int .u8) w A3 l3.length l3) (hc3 : l3.length ≤ c3) (hm3 : l3.length ≤ maxLen) (hw3 : ∀ x ∈ l3, (Lit.int .u8 x).wf = true) :
    Calls Try.prog 19 #[.int .u8 a0, .slice A1 l1.length c1, .int .i64 a2, .slice A3 l3.length c3] w fun e w' => e = .returned (.bool true) ∧ Below w.heap.size w w' :=
  tidelinelaw06_ColumnBack.calls _ a0 A1 c1 l1 a2 A3 c3 l3 true w hr1 hc1 hr3 hc3 (colBack_f a0 a2 l1 l3 hw1 (byte_all hw3))
end Go.Proofs.Ytlmcefhpnfoahaa.P
end

section
/- The row of the law ColumnBack: at every input it answers true, and each argument reads behind the call as it did. No condition. -/
namespace Go.Proofs.Ytlmcefhpnfoahaa.columnBack
open Go.ChangeShapes Go.WideShapes Go.ChangeAt Go.RowKit Go.Proofs.Ytlmcefhpnfoahaa.P
open Go.ChangeMaps (open_string shut_string)
set_option linter.unusedVariables false
theorem own : ownKnob Try.prog.godebug = none := by kernel_rfl
theorem laidOut : laidOutB Try.prog = true := by kernel_rfl
set_option maxRecDepth 100000 in
theorem lifted (os : Os) (started : os.Started) (H : Type) (enc : TypeId × Value → H) :
    ReturnsInHanded {} Try.checked os 19 .any (Rows.columnBackSpec.pre6 enc Try.prog Try.f19 Rows.columnBackRow.domain false) (Rows.columnBackSpec.post enc Try.prog Try.f19 false true false false) := by
  refine returnsInHanded_of_change_sized (C := Try.checked) own started (by kernel_rfl) Try.func19
    (ChangeSpec.witness6 (enc := enc) (C := Try.checked) false ⟨#[], #[.int .u8 0, .slice none 0 0, .int .i64 0, .slice none 0 0], []⟩ 8 (by kernel_rfl) (by kernel_rfl) (by kernel_rfl) (by kernel_rfl)) ?_
  intro W base args ds gs before hval0 hW hcnd hsz0 _
  have hval : ∀ (j : Nat) t v, Try.f19.params[j]? = some t → args[j]? = some v → Value.okWide Try.prog W .any base t v := hval0
  have hW' := hW
  obtain ⟨p, q, hA0, hV, rfl, hfz, hnd⟩ := hW
  have hA : DataW.TrodAll enc Try.prog W 0 (fun _ => true) true Try.f19.params.toList args.toList ds p := hA0
  rw [Try.params19] at hA hval
  obtain ⟨v0, vs0, d0, ds0, p0, q0, hargs, rfl, rfl, h0, r0⟩ := trodAll_cons hA
  obtain ⟨v1, vs1, d1, ds1, p1, q1, rfl, rfl, rfl, h1, r1⟩ := trodAll_cons r0
  obtain ⟨v2, vs2, d2, ds2, p2, q2, rfl, rfl, rfl, h2, r2⟩ := trodAll_cons r1
  obtain ⟨v3, vs3, d3, ds3, p3, q3, rfl, rfl, rfl, h3, r3⟩ := trodAll_cons r2
  obtain ⟨rfl, rfl, rfl⟩ := trodAll_nil r3
  obtain rfl : args = #[v0, v1, v2, v3] := by cases args; simp_all
  obtain ⟨rfl, rfl⟩ := trodVars_none hV
  obtain ⟨a0, rfl, rfl, rfl, w0⟩ := open_int Try.underlying5 (hval 0 5 v0 rfl rfl) h0
  obtain ⟨a1, len1, cap1, rfl⟩ := okWide_slice Try.underlying23 (hval 1 23 v1 rfl rfl)
  have k1 := h1
  have lt1 : ∀ x ∈ p1, x.block < W.heap.size := by obtain ⟨m, hm⟩ := k1; exact DataW.trod_lt m _ _ _ hm
  obtain ⟨l1, rfl, y1, z1, m1, w1⟩ := open_arg z39 Try.underlying23 (by kernel_rfl) tells_val h1
  obtain ⟨a2, rfl, rfl, rfl, w2⟩ := open_int Try.underlying3 (hval 2 3 v2 rfl rfl) h2
  obtain ⟨a3, len3, cap3, rfl⟩ := okWide_slice Try.underlying22 (hval 3 22 v3 rfl rfl)
  have k3 := h3
  have lt3 : ∀ x ∈ p3, x.block < W.heap.size := by obtain ⟨m, hm⟩ := k3; exact DataW.trod_lt m _ _ _ hm
  obtain ⟨l3, rfl, y3, z3, m3, w3⟩ := open_arg (0 : Int) Try.underlying22 (by kernel_rfl) (tells_int Try.underlying5) h3
  clear hA0 hval0 hsz0
  refine (walk_ColumnBack a0 a1 cap1 l1 a2 a3 cap3 l3 W w0 z1 y1 m1 w1 w2 z3 y3 m3 w3).mono fun e W' ⟨he, bel⟩ => ?_
  subst he
  exact ⟨_, rfl, _, _, _, [], _, [], hW', trodAll_mk1 (shut_bool Try.underlying4 _), (trodAll_cons_mk (shut_int Try.underlying5 w0) (trodAll_cons_mk (Below.trod laidOut (by kernel_rfl) (of_decide_eq_true (by kernel_rfl)) k1 bel lt1) (trodAll_cons_mk (shut_int Try.underlying3 w2) (trodAll_cons_mk (Below.trod laidOut (by kernel_rfl) (of_decide_eq_true (by kernel_rfl)) k3 bel lt3) trodAll_mk0)))), rfl, bel.frame _, fun h => by cases h⟩
theorem k_wf : Rows.columnBackRow.wf (OpenSpec.ofChange Rows.columnBackSpec) = true := by kernel_rfl
theorem k_params : Try.f19.params.all (Try.prog.readableRec ·) = true := by kernel_rfl
theorem k_tie : namedTie Try.prog Rows.columnBackRow.named Rows.columnBackSpec.vars = true := by kernel_rfl
theorem k_inPlace : (Rows.columnBackRow.inPlace == Try.prog.inPlace 19) = true := by kernel_rfl
theorem k_unfollowed : (Rows.columnBackRow.unfollowed == Try.prog.unfollowed 19) = true := by kernel_rfl
theorem k_recurses : (Rows.columnBackRow.recurses == Try.prog.recurses 19) = true := by kernel_rfl
theorem k_named : (Rows.columnBackRow.named == Try.prog.varsNamed 19) = true := by kernel_rfl
theorem k_maps : (Rows.columnBackRow.maps == (Try.f19.params.toList ++ Rows.columnBackSpec.plain.varTypes Try.prog).any (Try.prog.mapsRec ·)) = true := by kernel_rfl
theorem k_ifaces : (Rows.columnBackRow.ifaces == (Try.f19.params.toList ++ Rows.columnBackSpec.plain.varTypes Try.prog).any (Try.prog.ifacesRec ·)) = true := by kernel_rfl
theorem k_mapsOut : (Rows.columnBackRow.mapsOut == Try.prog.mapsAmong Try.f19.resultTypes.toList) = true := by kernel_rfl
theorem k_loops : (Rows.columnBackRow.loops == (Try.f19.params.toList ++ Rows.columnBackSpec.plain.varTypes Try.prog).any (Try.prog.loopsFrom ·)) = true := by kernel_rfl
theorem k_wideKeys : (Rows.columnBackRow.wideKeys == ((Try.f19.params.toList ++ Rows.columnBackSpec.plain.varTypes Try.prog) ++ Try.f19.resultTypes.toList).any (Try.prog.wideKeysFrom ·)) = true := by kernel_rfl
theorem k_results : Try.f19.resultTypes.all (fun t => Try.prog.readableRec t && decide (t < Try.prog.types.size)) = true := by kernel_rfl
theorem k_ifacesOut : (Rows.columnBackRow.ifacesOut == Try.f19.resultTypes.toList.any (Try.prog.ifacesRec ·)) = true := by kernel_rfl
theorem k_loopsOut : (Rows.columnBackRow.loopsOut == Try.f19.resultTypes.toList.any (Try.prog.loopsFrom ·)) = true := by kernel_rfl
theorem k_veiled : (Rows.columnBackRow.veiled == ((Try.f19.params.toList ++ Rows.columnBackSpec.plain.varTypes Try.prog) ++ Try.f19.resultTypes.toList).any (Try.prog.veiledRec ·)) = true := by kernel_rfl
theorem k_fits : Rows.columnBackRow.veiledFits Try.prog Try.f19.params.toList ((Try.f19.params.toList ++ Rows.columnBackSpec.plain.varTypes Try.prog) ++ Try.f19.resultTypes.toList) = true := by kernel_rfl
theorem k_kinds : (Rows.columnBackRow.kinds == (if Rows.columnBackRow.domain.isEmpty then [] else Try.f19.params.toList.map fun t => match Try.prog.underlying t with | some (.int k) => some k | _ => none)) = true := by kernel_rfl
theorem k_pins : (Rows.columnBackRow.pinned == Rows.columnBackRow.pinnedBy) = true := by kernel_rfl
theorem k_stops : (Rows.columnBackRow.stops == []) = true := by kernel_rfl
theorem k_knobs : (Rows.columnBackRow.knobs == []) = true := by kernel_rfl
theorem k_vars : Rows.columnBackSpec.vars.all (Try.prog.varReadable ·) = true := by kernel_rfl
theorem k_plain : Rows.columnBackRow.plainKeys = true := by kernel_rfl
theorem k_short : Rows.columnBackRow.shortTexts.isNone = true := by kernel_rfl
theorem k_lift : Rows.columnBackRow.lifted = false := by kernel_rfl
theorem k_make : Rows.columnBackRow.make = .cut := by kernel_rfl
theorem k_func : Try.prog.funcNamed Rows.columnBackRow.func = some 19 := by kernel_rfl
theorem k_plain2 : (Rows.columnBackRow.plainKeys == Try.prog.plainKeys) = (Rows.columnBackRow.plainKeys == true) := by rw [fact_plainKeys]
theorem k_lift2 : (Rows.columnBackRow.lifted == Try.prog.liftsFinal) = (Rows.columnBackRow.lifted == false) := by rw [fact_liftsFinal]
theorem k_make2 : (Try.prog.make == some Rows.columnBackRow.make) = true := by rw [fact_make, k_make]; rfl
set_option maxRecDepth 100000 in
theorem closed : joinedFacts Try.prog 19 Try.f19 Rows.columnBackSpec Rows.columnBackRow = true :=
  joined_of Try.prog 19 Try.f19 Rows.columnBackSpec Rows.columnBackRow k_wf fact_laidOut fact_mapsRowed k_params k_tie k_stops fact_stops k_knobs fact_stopKnobs k_inPlace k_unfollowed k_recurses k_named k_maps k_ifaces k_mapsOut k_loops k_wideKeys k_vars k_results k_ifacesOut k_loopsOut k_plain2 k_plain k_short fact_stopsHeard fact_mayEnter k_lift2 k_lift k_make2 k_kinds k_pins k_veiled k_fits
theorem over : Rows.columnBackRow.holds Try.pinned (OpenSpec.ofChange Rows.columnBackSpec) :=
  OpenClaim.holds_of_wide 19 Try.f19 rfl rfl rfl rfl rfl rfl rfl ⟨rfl, rfl, rfl, rfl, rfl⟩ rfl rfl rfl rfl rfl k_func Try.func19 closed
    (of_decide_eq_true (by kernel_rfl)) (by unfold Func.isWrapper; first | (rw [if_pos (by decide +kernel)]; kernel_rfl) | (rw [if_neg (by decide +kernel)]; exact ⟨rfl, rfl⟩))
    (fun os started H enc _ => lifted os started H enc)
theorem proved : Rows.ColumnBackSaid := over
#print axioms proved
end Go.Proofs.Ytlmcefhpnfoahaa.columnBack
namespace Go.Proofs.Ytlmcefhpnfoahaa
/-- The row, under a short name, for the claim. -/
theorem columnBack_holds : Rows.ColumnBackSaid := columnBack.proved
end Go.Proofs.Ytlmcefhpnfoahaa
end
