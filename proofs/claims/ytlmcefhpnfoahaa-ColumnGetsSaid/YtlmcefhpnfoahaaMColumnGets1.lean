/- The row of the law ColumnGets: at every input it answers true, and each argument reads behind the call as it did. No condition. -/
import Derived.WalkKit
import Derived.ProofKit
import Derived.OpenShut
import Derived.ShutString
import Derived.ChangeOld
import Derived.Below
import Derived.SizedLaws
import Derived.Test.YtlmcefhpnfoahaaRows
import Derived.Test.YtlmcefhpnfoahaaMColumnGets0
section
namespace Go.Proofs.Ytlmcefhpnfoahaa.P
open Go.RowKit Go.Proofs.YtlmcefhpnfoahaaW.PrintWords Go.Proofs.YtlmcefhpnfoahaaW.PrintLast Go.Proofs.YtlmcefhpnfoahaaW.PrintMore
attribute [local go_sem] max2_int min2_int max_two min_two max_three min_three max_four min_four   -- for this text's walks alone
set_option linter.unusedVariables false
set_option linter.unusedSimpArgs false

def tidelinelaw06_ColumnGets.j0 : Nat → Int → List Int → Int → Bool → Option (Bool)
  | 0, _, _, _, _ => none
  | k + 1, x0, x1, x2, x22 => if x22 = true then (some true) else ((some (([] : List Int) : List Int)).bind fun y1096 => (if y1096.length + x1.length < 140737488355328 then ((some (y1096 ++ x1 : List Int)).bind fun y1099 => ((column_Get.f x0 y1099 x2).bind fun bt1102 => ((tidelineref06_Get.f k x0 x1 x2).bind fun bt1106 => ((tidelineref03_Same.f k bt1102.1 bt1106.1).bind fun t1110 => (if t1110 = true then (if bt1102.2 = bt1106.2 then (if (strOfNums y1099).toList = (strOfNums x1).toList then ((tidelinelaw06_puts.f).bind fun t1111 => (some t1111)) else (some false)) else (some false)) else (some false)))))) else (none)))
def tidelinelaw06_ColumnGets.f (k : Nat) (a0 : Int) (l1 : List Int) (a2 : Int) : Option (Bool) := if (l1.length : Int) > 1000 then (tidelinelaw06_ColumnGets.j0 k a0 l1 a2 true) else (if a2 > 2000 then (tidelinelaw06_ColumnGets.j0 k a0 l1 a2 (decide (a2 ≤ 65536))) else (tidelinelaw06_ColumnGets.j0 k a0 l1 a2 false))
set_option maxHeartbeats 8000000 in
set_option maxRecDepth 100000 in
theorem tidelinelaw06_ColumnGets.calls (k : Nat) (a0 : Int) (A1 : Option Addr) (c1 : Nat) (l1 : List Int) (a2 : Int) (r : Bool) (w : World) (hr1 : Kd.C (Kd.int .u8) w A1 l1.length l1) (hc1 : l1.length ≤ c1) (h : tidelinelaw06_ColumnGets.f k a0 l1 a2 = some r) :
    Calls Try.prog 18 #[.int .u8 a0, .slice A1 l1.length c1, .int .i64 a2] w fun e w' => e = .returned (.bool r) ∧ Below w.heap.size w w' := by
  have HR1 := Aside0.mk hr1
  have HC1 := Aside0.mk hc1
  clear hr1 hc1
  have HB := Aside0.mk (Below.refl w.heap.size w)
  have H : (if (l1.length : Int) > 1000 then (tidelinelaw06_ColumnGets.j0 k a0 l1 a2 true) else (if a2 > 2000 then (tidelinelaw06_ColumnGets.j0 k a0 l1 a2 (decide (a2 ≤ 65536))) else (tidelinelaw06_ColumnGets.j0 k a0 l1 a2 false))) = some r := h
  clear h
  have HC4 := Aside0.mk H
  clear H
  go_enter Try.func18, Try.ntmps18
  go_upto_region 1 with (fail)
  go_cut [22] (fun v22 wc => ∃ (kq : Nat) (x22_3 : Bool), v22 = .bool x22_3 ∧ Aside0 (tidelinelaw06_ColumnGets.j0 kq a0 l1 a2 x22_3 = some r) ∧ Aside0 (kq ≤ k) ∧ Aside0 (Below w.heap.size w wc))
  case first =>
    have H := HC4.out
    clear HC4
    by_cases c5 : (l1.length : Int) > 1000
    · rw [if_pos c5] at H
      have c5b0 : decide (1000 < (l1.length : Int)) = true := decide_eq_true c5
      have c5b1 : decide (1000 < l1.length) = true := decide_eq_true (by omega)
      clear c5
      (first | rw [c5b0] | (simp only [i64_w, i32_w]; rw [c5b0]) | skip)
      have H' := Aside0.mk H
      clear H
      go_wp2
      go_meet
      case rel => exact ⟨_, (true), (by first | rfl | (simp; done) | (simp [*]; done)), H', ⟨by first | omega | exact Nat.le_refl _⟩, ⟨by repeat (first | (with_reducible first | exact HB.out | apply below_alloc | apply pw_below_drewN | apply below_drew1) | exact HB.out)⟩⟩
    · rw [if_neg c5] at H
      have c5b0 : decide (1000 < (l1.length : Int)) = false := decide_eq_false c5
      have c5b1 : decide (1000 < l1.length) = false := decide_eq_false (by omega)
      clear c5
      (first | rw [c5b0] | (simp only [i64_w, i32_w]; rw [c5b0]) | skip)
      by_cases c6 : a2 > 2000
      · rw [if_pos c6] at H
        have c6b0 : decide (2000 < a2) = true := decide_eq_true c6
        clear c6
        have H' := Aside0.mk H
        clear H
        go_wp2
        go_meet
        case rel => exact ⟨_, (decide (a2 ≤ 65536)), (by first | rfl | (simp; done) | (simp [*]; done)), H', ⟨by first | omega | exact Nat.le_refl _⟩, ⟨by repeat (first | (with_reducible first | exact HB.out | apply below_alloc | apply pw_below_drewN | apply below_drew1) | exact HB.out)⟩⟩
      · rw [if_neg c6] at H
        have c6b0 : decide (2000 < a2) = false := decide_eq_false c6
        clear c6
        have H' := Aside0.mk H
        clear H
        go_wp2
        go_meet
        case rel => exact ⟨_, (false), (by first | rfl | (simp; done) | (simp [*]; done)), H', ⟨by first | omega | exact Nat.le_refl _⟩, ⟨by repeat (first | (with_reducible first | exact HB.out | apply below_alloc | apply pw_below_drewN | apply below_drew1) | exact HB.out)⟩⟩
  case rest =>
    clear HC4
    try clear c1
    try clear p2
    try clear c5
    try clear c5b0
    try clear c5b1
    try clear c6
    try clear c6b0
    obtain ⟨kq, x22_3, rfl, HA, HJ3, HB⟩ := hcut
    cases kq with
    | zero => exact absurd HA.out (by simp [tidelinelaw06_ColumnGets.j0])
    | succ kj3 =>
      have H := HA.out
      clear HA
      simp only [tidelinelaw06_ColumnGets.j0] at H
      by_cases c7 : x22_3 = true
      · subst c7
        have H1 : (some true) = some r := by rw [if_pos rfl] at H; exact H
        clear H
        have H := H1
        clear H1
        obtain rfl := Option.some.inj H
        go_wp2
        go_ret
        exact ⟨by first | rfl | (simp [errW_none, errW_some] <;> rfl) | (simp [*, errW_none, errW_some] <;> rfl), by repeat (first | (with_reducible first | exact HB.out | apply below_alloc | apply pw_below_drewN | apply below_drew1) | exact HB.out)⟩
      · replace c7 := Bool.eq_false_iff.mpr c7
        subst c7
        have H1 : ((some (([] : List Int) : List Int)).bind fun y1096 => (if y1096.length + l1.length < 140737488355328 then ((some (y1096 ++ l1 : List Int)).bind fun y1099 => ((column_Get.f a0 y1099 a2).bind fun bt1102 => ((tidelineref06_Get.f kj3 a0 l1 a2).bind fun bt1106 => ((tidelineref03_Same.f kj3 bt1102.1 bt1106.1).bind fun t1110 => (if t1110 = true then (if bt1102.2 = bt1106.2 then (if (strOfNums y1099).toList = (strOfNums l1).toList then ((tidelinelaw06_puts.f).bind fun t1111 => (some t1111)) else (some false)) else (some false)) else (some false)))))) else (none))) = some r := by rw [if_neg (show ¬ (false = true) by decide)] at H; exact H
        clear H
        have H := H1
        clear H1
        obtain ⟨y1096, hy1096⟩ : ∃ y_ : List Int, y_ = (([] : List Int)) := ⟨_, rfl⟩
        replace H : (if y1096.length + l1.length < 140737488355328 then ((some (y1096 ++ l1 : List Int)).bind fun y1099 => ((column_Get.f a0 y1099 a2).bind fun bt1102 => ((tidelineref06_Get.f kj3 a0 l1 a2).bind fun bt1106 => ((tidelineref03_Same.f kj3 bt1102.1 bt1106.1).bind fun t1110 => (if t1110 = true then (if bt1102.2 = bt1106.2 then (if (strOfNums y1099).toList = (strOfNums l1).toList then ((tidelinelaw06_puts.f).bind fun t1111 => (some t1111)) else (some false)) else (some false)) else (some false)))))) else (none)) = some r := by first | (rw [hy1096]; with_reducible exact H) | (have H2_ := (Option.bind_some _ _).symm.trans H; rw [hy1096]; with_reducible exact H2_) | (have H2_ := (Option.bind_some _ _).symm.trans H; with_reducible exact H2_) | with_reducible exact H | (rw [hy1096]; exact H) | exact H
        have Ny1096 := Aside0.mk hy1096
        clear hy1096
        by_cases c8 : y1096.length + l1.length < 140737488355328
        · rw [if_pos c8] at H
          have LMc8 := Aside0.mk c8
          clear c8
          obtain ⟨y1099, hy1099⟩ : ∃ y_ : List Int, y_ = (y1096 ++ l1) := ⟨_, rfl⟩
          replace H : ((column_Get.f a0 y1099 a2).bind fun bt1102 => ((tidelineref06_Get.f kj3 a0 l1 a2).bind fun bt1106 => ((tidelineref03_Same.f kj3 bt1102.1 bt1106.1).bind fun t1110 => (if t1110 = true then (if bt1102.2 = bt1106.2 then (if (strOfNums y1099).toList = (strOfNums l1).toList then ((tidelinelaw06_puts.f).bind fun t1111 => (some t1111)) else (some false)) else (some false)) else (some false))))) = some r := by first | (rw [hy1099]; with_reducible exact H) | (have H2_ := (Option.bind_some _ _).symm.trans H; rw [hy1099]; with_reducible exact H2_) | (have H2_ := (Option.bind_some _ _).symm.trans H; with_reducible exact H2_) | with_reducible exact H | (rw [hy1099]; exact H) | exact H
          have Ny1099 := Aside0.mk hy1099
          clear hy1099
          replace H := Option.bind_eq_some_iff.mp H
          obtain ⟨⟨t1102, t1103⟩, A90, H⟩ := H
          replace H : ((tidelineref06_Get.f kj3 a0 l1 a2).bind fun bt1106 => ((tidelineref03_Same.f kj3 t1102 bt1106.1).bind fun t1110 => (if t1110 = true then (if t1103 = bt1106.2 then (if (strOfNums y1099).toList = (strOfNums l1).toList then ((tidelinelaw06_puts.f).bind fun t1111 => (some t1111)) else (some false)) else (some false)) else (some false)))) = some r := H
          have A9 := Aside0.mk A90
          clear A90
          replace H := Option.bind_eq_some_iff.mp H
          obtain ⟨⟨t1106, t1107⟩, A100, H⟩ := H
          replace H : ((tidelineref03_Same.f kj3 t1102 t1106).bind fun t1110 => (if t1110 = true then (if t1103 = t1107 then (if (strOfNums y1099).toList = (strOfNums l1).toList then ((tidelinelaw06_puts.f).bind fun t1111 => (some t1111)) else (some false)) else (some false)) else (some false))) = some r := H
          have A10 := Aside0.mk A100
          clear A100
          replace H := Option.bind_eq_some_iff.mp H
          obtain ⟨t1110, A110, H⟩ := H
          replace H : (if t1110 = true then (if t1103 = t1107 then (if (strOfNums y1099).toList = (strOfNums l1).toList then ((tidelinelaw06_puts.f).bind fun t1111 => (some t1111)) else (some false)) else (some false)) else (some false)) = some r := H
          have A11 := Aside0.mk A110
          clear A110
          by_cases c12 : t1110 = true
          · subst c12
            have H1 : (if t1103 = t1107 then (if (strOfNums y1099).toList = (strOfNums l1).toList then ((tidelinelaw06_puts.f).bind fun t1111 => (some t1111)) else (some false)) else (some false)) = some r := by rw [if_pos rfl] at H; exact H
            clear H
            have H := H1
            clear H1
            by_cases c13 : t1103 = t1107
            · rw [if_pos c13] at H
              have c13b0 : (t1103 == t1107) = true := beq_iff_eq.mpr c13
              have c13b1 : (t1103 != t1107) = false := bne_eq_false_iff_eq.mpr c13
              clear c13
              by_cases c14 : (strOfNums y1099).toList = (strOfNums l1).toList
              · rw [if_pos c14] at H
                have c14b0 : ((strOfNums y1099).toList == (strOfNums l1).toList) = true := beq_iff_eq.mpr c14
                have c14b1 : ((strOfNums y1099).toList != (strOfNums l1).toList) = false := bne_eq_false_iff_eq.mpr c14
                clear c14
                replace H := Option.bind_eq_some_iff.mp H
                obtain ⟨t1111, A150, H⟩ := H
                replace H : (some t1111) = some r := H
                have A15 := Aside0.mk A150
                clear A150
                obtain rfl := Option.some.inj H
                go_wp2_with (first | ((with_reducible refine gate_dst (N := 23) rfl ?_); refine Kd.R_lit (Kd.int .u8) _ 5 ?hg (N := 23) ?hd (xs := ([] : List Int)) (inner := []) (ok := fun _ => True) (okp := fun _ => True) ?hr ?hp (fun _ hk => hk) trivial (Below.refl _ _) (Nat.le_refl _) (by simp) ?_; (case hd => rfl); (case hg => rfl); (case hr => first | (go_simp; done) | (go_simp; rfl)); (case hp => exact (Reps.none _ _)); intro v1097 w16 ho17 hb hg_ hnew_; clear hg_ hnew_; (first | rw [← Ny1096.out] at ho17 | (simp only [Int.reduceToNat] at ho17; rw [← Ny1096.out] at ho17)); have n0_ := Aside0.mk (Kd.R_lower ho17 (below_size (by repeat (first | (with_reducible first | exact HB.out | apply below_alloc | apply pw_below_drewN | apply below_drew1) | exact HB.out)))); have n1_ := Aside0.mk (below_step (by repeat (first | (with_reducible first | exact HB.out | apply below_alloc | apply pw_below_drewN | apply below_drew1) | exact HB.out)) hb); clear HB; have HO1098 := n0_; have HB := n1_; clear n0_ n1_; clear hb ho17) | ((with_reducible refine gate_builtin (b := .append) (xs := #[.tmp 23, .tmp 24]) rfl ?_); at_builtin; refine Kd.R_append_rows (Kd.int .u8) (w0 := w) w.heap.size rfl (.tmp 23) (.tmp 24) 22 5 (.int .u8 0) 1 rfl Try.underlying22 info5 rfl (by decide) (by omega) v1097 y1096 l1 _ _ _ (fun _ => True) (fun _ => False) rfl rfl ?aO ?aR (fun _ _ h => h) (fun _ h => h.elim) ?aF ?aB ?aS ?aL ?_; (case aR => repeat (first | exact (Kd.C_below HR1.out HB.out) | (with_reducible refine Kd.C_alloc ?_ _) | (with_reducible refine Kd.C_drewN ?_ _) | (with_reducible refine Kd.C_drew ?_))); (case aB => exact (by repeat (first | (with_reducible first | exact HB.out | apply below_alloc | apply pw_below_drewN | apply below_drew1) | exact HB.out))); (case aF => exact (fun _ _ => trivial)); (case aO => exact (by (with_reducible repeat (first | apply Kd.R_alloc | apply Kd.R_drewN | apply Kd.R_drew)); exact HO1098.out)); (case aS => exact (below_size (by repeat (first | (with_reducible first | exact HB.out | apply below_alloc | apply pw_below_drewN | apply below_drew1) | exact HB.out)))); (case aL => have := LMc8.out; omega); intro v1100 w18 ho hb hg hat; rw [← Ny1099.out] at ho; have n0_ := Aside0.mk (hb); have n1_ := Aside0.mk (ho); clear HB; clear HO1098; have HB := n0_; have HO1101 := n1_; clear n0_ n1_; clear ho hb hg hat; obtain ⟨Ao19, co19, eo19⟩ := Kd.R_slice HO1101.out; subst eo19) | ((with_reducible refine gate_callee (f := 58) rfl ?_); refine goesL_ (some 30) rfl rfl Try.func58 (by kernel_rfl) rfl #[.int .u8 a0, .slice Ao19 y1099.length co19, .int .i64 a2] rfl (by (try simp only [List.map_toArray, List.map_cons, List.map_nil]); first | done | rfl | (simp only [List.length_drop, List.length_take]; rfl)) ?_; (with_reducible refine (column_Get.calls a0 _ _ y1099 a2 t1102 t1103 _ ?side1 ?side2 A9.out).mono ?_); (case side1 => repeat (first | exact (Kd.R_reads' HO1101.out).2.2 | (with_reducible refine Kd.C_alloc ?_ _) | (with_reducible refine Kd.C_drewN ?_ _) | (with_reducible refine Kd.C_drew ?_))); (case side2 => exact (Kd.R_reads' HO1101.out).2.1); rintro e w20 ⟨v1104, rfl, ho0, hb⟩; refine ⟨_, rfl, ?_⟩; have n0_ := Aside0.mk (Kd.R_below (by (with_reducible repeat (first | apply Kd.R_alloc | apply Kd.R_drewN | apply Kd.R_drew)); exact HO1101.out) hb); have n1_ := Aside0.mk (Kd.R_lower ho0 (below_size (by repeat (first | (with_reducible first | exact HB.out | apply below_alloc | apply pw_below_drewN | apply below_drew1) | exact HB.out)))); have n2_ := Aside0.mk (below_step (by repeat (first | (with_reducible first | exact HB.out | apply below_alloc | apply pw_below_drewN | apply below_drew1) | exact HB.out)) hb); clear HO1101; clear HB; have HO1101 := n0_; have HO1105 := n1_; have HB := n2_; clear n0_ n1_ n2_; (try clear hb); (try clear hb2); (try clear hk); (try clear hi); (try clear ho0)) | ((with_reducible refine gate_callee (f := 59) rfl ?_); refine goesL_ (some 37) rfl rfl Try.func59 (by kernel_rfl) rfl #[.int .u8 a0, .slice A1 l1.length c1, .int .i64 a2] rfl (by (try simp only [List.map_toArray, List.map_cons, List.map_nil]); first | done | rfl | (simp only [List.length_drop, List.length_take]; rfl)) ?_; (with_reducible refine (tidelineref06_Get.calls kj3 a0 _ _ l1 a2 t1106 t1107 _ ?side1 ?side2 A10.out).mono ?_); (case side1 => repeat (first | exact (Kd.C_below HR1.out HB.out) | (with_reducible refine Kd.C_alloc ?_ _) | (with_reducible refine Kd.C_drewN ?_ _) | (with_reducible refine Kd.C_drew ?_))); (case side2 => exact HC1.out); rintro e w21 ⟨v1108, rfl, ho0, hb⟩; refine ⟨_, rfl, ?_⟩; have n0_ := Aside0.mk (Kd.R_below (by (with_reducible repeat (first | apply Kd.R_alloc | apply Kd.R_drewN | apply Kd.R_drew)); exact HO1101.out) hb); have n1_ := Aside0.mk (Kd.R_elder' (by (with_reducible repeat (first | apply Kd.R_alloc | apply Kd.R_drewN | apply Kd.R_drew)); exact HO1105.out) (Kd.R_base ho0) hb); have n2_ := Aside0.mk (Kd.R_lower (Kd.R_new' ho0 (Kd.R_lt (by (with_reducible repeat (first | apply Kd.R_alloc | apply Kd.R_drewN | apply Kd.R_drew)); exact HO1105.out))) (below_size (by repeat (first | (with_reducible first | exact HB.out | apply below_alloc | apply pw_below_drewN | apply below_drew1) | exact HB.out)))); have n3_ := Aside0.mk (below_step (by repeat (first | (with_reducible first | exact HB.out | apply below_alloc | apply pw_below_drewN | apply below_drew1) | exact HB.out)) hb); clear HO1101; clear HO1105; clear HB; have HO1101 := n0_; have HO1105 := n1_; have HO1109 := n2_; have HB := n3_; clear n0_ n1_ n2_ n3_; (try clear hb); (try clear hb2); (try clear hk); (try clear hi); (try clear ho0); obtain ⟨Ao22, co22, eo22⟩ := Kd.R_slice HO1105.out; subst eo22; obtain ⟨Ao23, co23, eo23⟩ := Kd.R_slice HO1109.out; subst eo23) | ((with_reducible refine gate_callee (f := 32) rfl ?_); refine goesL_ (some 42) rfl rfl Try.func32 (by kernel_rfl) rfl #[.slice Ao22 t1102.length co22, .slice Ao23 t1106.length co23] rfl (by (try simp only [List.map_toArray, List.map_cons, List.map_nil]); first | done | rfl | (simp only [List.length_drop, List.length_take]; rfl)) ?_; (with_reducible refine (tidelineref03_Same.calls kj3 _ _ t1102 _ _ t1106 true _ ?side1 ?side2 ?side3 ?side4 A11.out).mono ?_); (case side1 => repeat (first | exact (Kd.R_reads' HO1105.out).2.2 | (with_reducible refine Kd.C_alloc ?_ _) | (with_reducible refine Kd.C_drewN ?_ _) | (with_reducible refine Kd.C_drew ?_))); (case side2 => exact (Kd.R_reads' HO1105.out).2.1); (case side3 => repeat (first | exact (Kd.R_reads' HO1109.out).2.2 | (with_reducible refine Kd.C_alloc ?_ _) | (with_reducible refine Kd.C_drewN ?_ _) | (with_reducible refine Kd.C_drew ?_))); (case side4 => exact (Kd.R_reads' HO1109.out).2.1); rintro e w' ⟨rfl, ⟨nd, rfl⟩⟩; refine ⟨_, rfl, ?_⟩; have hcv24q := fun q_ : Nat => own_string (P := Try.prog) Try.underlying22 Try.underlying5 Try.underlying9 (Kd.own_of_R (Kd.R_drewN HO1101.out q_)); have hcv24 := own_string (P := Try.prog) Try.underlying22 Try.underlying5 Try.underlying9 (Kd.own_of_R HO1101.out); have hcv25q := fun q_ : Nat => Kd.C_string (P := Try.prog) (A := A1) (c := c1) Try.underlying22 Try.underlying5 Try.underlying9 (Kd.C_drewN (Kd.C_below HR1.out HB.out) q_); have hcv25 := Kd.C_string (P := Try.prog) (A := A1) (c := c1) Try.underlying22 Try.underlying5 Try.underlying9 (Kd.C_below HR1.out HB.out)) | (go_at_call 57; (with_reducible refine (tidelinelaw06_puts.calls  t1111 _ A15.out).mono ?_); rintro e w26 ⟨rfl, hb⟩; have n0_ := Aside0.mk (Kd.R_below (by (with_reducible repeat (first | apply Kd.R_alloc | apply Kd.R_drewN | apply Kd.R_drew)); exact HO1101.out) hb); have n1_ := Aside0.mk (Kd.R_below (by (with_reducible repeat (first | apply Kd.R_alloc | apply Kd.R_drewN | apply Kd.R_drew)); exact HO1105.out) hb); have n2_ := Aside0.mk (Kd.R_below (by (with_reducible repeat (first | apply Kd.R_alloc | apply Kd.R_drewN | apply Kd.R_drew)); exact HO1109.out) hb); have n3_ := Aside0.mk (below_step (by repeat (first | (with_reducible first | exact HB.out | apply below_alloc | apply pw_below_drewN | apply below_drew1) | exact HB.out)) hb); clear HO1101; clear HO1105; clear HO1109; clear HB; have HO1101 := n0_; have HO1105 := n1_; have HO1109 := n2_; have HB := n3_; clear n0_ n1_ n2_ n3_; (try clear hb); (try clear hb2); (try clear hk); (try clear hi)))
                go_ret
                exact ⟨by first | rfl | (simp [errW_none, errW_some] <;> rfl) | (simp [*, errW_none, errW_some] <;> rfl), by repeat (first | (with_reducible first | exact HB.out | apply below_alloc | apply pw_below_drewN | apply below_drew1) | exact HB.out)⟩
              · rw [if_neg c14] at H
                have c14b0 : ((strOfNums y1099).toList == (strOfNums l1).toList) = false := beq_eq_false_iff_ne.mpr c14
                have c14b1 : ((strOfNums y1099).toList != (strOfNums l1).toList) = true := bne_iff_ne.mpr c14
                obtain rfl := Option.some.inj H
                go_wp2_with (first | ((with_reducible refine gate_dst (N := 23) rfl ?_); refine Kd.R_lit (Kd.int .u8) _ 5 ?hg (N := 23) ?hd (xs := ([] : List Int)) (inner := []) (ok := fun _ => True) (okp := fun _ => True) ?hr ?hp (fun _ hk => hk) trivial (Below.refl _ _) (Nat.le_refl _) (by simp) ?_; (case hd => rfl); (case hg => rfl); (case hr => first | (go_simp; done) | (go_simp; rfl)); (case hp => exact (Reps.none _ _)); intro v1097 w27 ho28 hb hg_ hnew_; clear hg_ hnew_; (first | rw [← Ny1096.out] at ho28 | (simp only [Int.reduceToNat] at ho28; rw [← Ny1096.out] at ho28)); have n0_ := Aside0.mk (Kd.R_lower ho28 (below_size (by repeat (first | (with_reducible first | exact HB.out | apply below_alloc | apply pw_below_drewN | apply below_drew1) | exact HB.out)))); have n1_ := Aside0.mk (below_step (by repeat (first | (with_reducible first | exact HB.out | apply below_alloc | apply pw_below_drewN | apply below_drew1) | exact HB.out)) hb); clear HB; have HO1098 := n0_; have HB := n1_; clear n0_ n1_; clear hb ho28) | ((with_reducible refine gate_builtin (b := .append) (xs := #[.tmp 23, .tmp 24]) rfl ?_); at_builtin; refine Kd.R_append_rows (Kd.int .u8) (w0 := w) w.heap.size rfl (.tmp 23) (.tmp 24) 22 5 (.int .u8 0) 1 rfl Try.underlying22 info5 rfl (by decide) (by omega) v1097 y1096 l1 _ _ _ (fun _ => True) (fun _ => False) rfl rfl ?aO ?aR (fun _ _ h => h) (fun _ h => h.elim) ?aF ?aB ?aS ?aL ?_; (case aR => repeat (first | exact (Kd.C_below HR1.out HB.out) | (with_reducible refine Kd.C_alloc ?_ _) | (with_reducible refine Kd.C_drewN ?_ _) | (with_reducible refine Kd.C_drew ?_))); (case aB => exact (by repeat (first | (with_reducible first | exact HB.out | apply below_alloc | apply pw_below_drewN | apply below_drew1) | exact HB.out))); (case aF => exact (fun _ _ => trivial)); (case aO => exact (by (with_reducible repeat (first | apply Kd.R_alloc | apply Kd.R_drewN | apply Kd.R_drew)); exact HO1098.out)); (case aS => exact (below_size (by repeat (first | (with_reducible first | exact HB.out | apply below_alloc | apply pw_below_drewN | apply below_drew1) | exact HB.out)))); (case aL => have := LMc8.out; omega); intro v1100 w29 ho hb hg hat; rw [← Ny1099.out] at ho; have n0_ := Aside0.mk (hb); have n1_ := Aside0.mk (ho); clear HB; clear HO1098; have HB := n0_; have HO1101 := n1_; clear n0_ n1_; clear ho hb hg hat; obtain ⟨Ao30, co30, eo30⟩ := Kd.R_slice HO1101.out; subst eo30) | ((with_reducible refine gate_callee (f := 58) rfl ?_); refine goesL_ (some 30) rfl rfl Try.func58 (by kernel_rfl) rfl #[.int .u8 a0, .slice Ao30 y1099.length co30, .int .i64 a2] rfl (by (try simp only [List.map_toArray, List.map_cons, List.map_nil]); first | done | rfl | (simp only [List.length_drop, List.length_take]; rfl)) ?_; (with_reducible refine (column_Get.calls a0 _ _ y1099 a2 t1102 t1103 _ ?side1 ?side2 A9.out).mono ?_); (case side1 => repeat (first | exact (Kd.R_reads' HO1101.out).2.2 | (with_reducible refine Kd.C_alloc ?_ _) | (with_reducible refine Kd.C_drewN ?_ _) | (with_reducible refine Kd.C_drew ?_))); (case side2 => exact (Kd.R_reads' HO1101.out).2.1); rintro e w31 ⟨v1104, rfl, ho0, hb⟩; refine ⟨_, rfl, ?_⟩; have n0_ := Aside0.mk (Kd.R_below (by (with_reducible repeat (first | apply Kd.R_alloc | apply Kd.R_drewN | apply Kd.R_drew)); exact HO1101.out) hb); have n1_ := Aside0.mk (Kd.R_lower ho0 (below_size (by repeat (first | (with_reducible first | exact HB.out | apply below_alloc | apply pw_below_drewN | apply below_drew1) | exact HB.out)))); have n2_ := Aside0.mk (below_step (by repeat (first | (with_reducible first | exact HB.out | apply below_alloc | apply pw_below_drewN | apply below_drew1) | exact HB.out)) hb); clear HO1101; clear HB; have HO1101 := n0_; have HO1105 := n1_; have HB := n2_; clear n0_ n1_ n2_; (try clear hb); (try clear hb2); (try clear hk); (try clear hi); (try clear ho0)) | ((with_reducible refine gate_callee (f := 59) rfl ?_); refine goesL_ (some 37) rfl rfl Try.func59 (by kernel_rfl) rfl #[.int .u8 a0, .slice A1 l1.length c1, .int .i64 a2] rfl (by (try simp only [List.map_toArray, List.map_cons, List.map_nil]); first | done | rfl | (simp only [List.length_drop, List.length_take]; rfl)) ?_; (with_reducible refine (tidelineref06_Get.calls kj3 a0 _ _ l1 a2 t1106 t1107 _ ?side1 ?side2 A10.out).mono ?_); (case side1 => repeat (first | exact (Kd.C_below HR1.out HB.out) | (with_reducible refine Kd.C_alloc ?_ _) | (with_reducible refine Kd.C_drewN ?_ _) | (with_reducible refine Kd.C_drew ?_))); (case side2 => exact HC1.out); rintro e w32 ⟨v1108, rfl, ho0, hb⟩; refine ⟨_, rfl, ?_⟩; have n0_ := Aside0.mk (Kd.R_below (by (with_reducible repeat (first | apply Kd.R_alloc | apply Kd.R_drewN | apply Kd.R_drew)); exact HO1101.out) hb); have n1_ := Aside0.mk (Kd.R_elder' (by (with_reducible repeat (first | apply Kd.R_alloc | apply Kd.R_drewN | apply Kd.R_drew)); exact HO1105.out) (Kd.R_base ho0) hb); have n2_ := Aside0.mk (Kd.R_lower (Kd.R_new' ho0 (Kd.R_lt (by (with_reducible repeat (first | apply Kd.R_alloc | apply Kd.R_drewN | apply Kd.R_drew)); exact HO1105.out))) (below_size (by repeat (first | (with_reducible first | exact HB.out | apply below_alloc | apply pw_below_drewN | apply below_drew1) | exact HB.out)))); have n3_ := Aside0.mk (below_step (by repeat (first | (with_reducible first | exact HB.out | apply below_alloc | apply pw_below_drewN | apply below_drew1) | exact HB.out)) hb); clear HO1101; clear HO1105; clear HB; have HO1101 := n0_; have HO1105 := n1_; have HO1109 := n2_; have HB := n3_; clear n0_ n1_ n2_ n3_; (try clear hb); (try clear hb2); (try clear hk); (try clear hi); (try clear ho0); obtain ⟨Ao33, co33, eo33⟩ := Kd.R_slice HO1105.out; subst eo33; obtain ⟨Ao34, co34, eo34⟩ := Kd.R_slice HO1109.out; subst eo34) | ((with_reducible refine gate_callee (f := 32) rfl ?_); refine goesL_ (some 42) rfl rfl Try.func32 (by kernel_rfl) rfl #[.slice Ao33 t1102.length co33, .slice Ao34 t1106.length co34] rfl (by (try simp only [List.map_toArray, List.map_cons, List.map_nil]); first | done | rfl | (simp only [List.length_drop, List.length_take]; rfl)) ?_; (with_reducible refine (tidelineref03_Same.calls kj3 _ _ t1102 _ _ t1106 true _ ?side1 ?side2 ?side3 ?side4 A11.out).mono ?_); (case side1 => repeat (first | exact (Kd.R_reads' HO1105.out).2.2 | (with_reducible refine Kd.C_alloc ?_ _) | (with_reducible refine Kd.C_drewN ?_ _) | (with_reducible refine Kd.C_drew ?_))); (case side2 => exact (Kd.R_reads' HO1105.out).2.1); (case side3 => repeat (first | exact (Kd.R_reads' HO1109.out).2.2 | (with_reducible refine Kd.C_alloc ?_ _) | (with_reducible refine Kd.C_drewN ?_ _) | (with_reducible refine Kd.C_drew ?_))); (case side4 => exact (Kd.R_reads' HO1109.out).2.1); rintro e w' ⟨rfl, ⟨nd, rfl⟩⟩; refine ⟨_, rfl, ?_⟩; have hcv35q := fun q_ : Nat => own_string (P := Try.prog) Try.underlying22 Try.underlying5 Try.underlying9 (Kd.own_of_R (Kd.R_drewN HO1101.out q_)); have hcv35 := own_string (P := Try.prog) Try.underlying22 Try.underlying5 Try.underlying9 (Kd.own_of_R HO1101.out); have hcv36q := fun q_ : Nat => Kd.C_string (P := Try.prog) (A := A1) (c := c1) Try.underlying22 Try.underlying5 Try.underlying9 (Kd.C_drewN (Kd.C_below HR1.out HB.out) q_); have hcv36 := Kd.C_string (P := Try.prog) (A := A1) (c := c1) Try.underlying22 Try.underlying5 Try.underlying9 (Kd.C_below HR1.out HB.out)))
                go_ret
                exact ⟨by first | rfl | (simp [errW_none, errW_some] <;> rfl) | (simp [*, errW_none, errW_some] <;> rfl), by repeat (first | (with_reducible first | exact HB.out | apply below_alloc | apply pw_below_drewN | apply below_drew1) | exact HB.out)⟩
            · rw [if_neg c13] at H
              have c13b0 : (t1103 == t1107) = false := beq_eq_false_iff_ne.mpr c13
              have c13b1 : (t1103 != t1107) = true := bne_iff_ne.mpr c13
              obtain rfl := Option.some.inj H
              go_wp2_with (first | ((with_reducible refine gate_dst (N := 23) rfl ?_); refine Kd.R_lit (Kd.int .u8) _ 5 ?hg (N := 23) ?hd (xs := ([] : List Int)) (inner := []) (ok := fun _ => True) (okp := fun _ => True) ?hr ?hp (fun _ hk => hk) trivial (Below.refl _ _) (Nat.le_refl _) (by simp) ?_; (case hd => rfl); (case hg => rfl); (case hr => first | (go_simp; done) | (go_simp; rfl)); (case hp => exact (Reps.none _ _)); intro v1097 w37 ho38 hb hg_ hnew_; clear hg_ hnew_; (first | rw [← Ny1096.out] at ho38 | (simp only [Int.reduceToNat] at ho38; rw [← Ny1096.out] at ho38)); have n0_ := Aside0.mk (Kd.R_lower ho38 (below_size (by repeat (first | (with_reducible first | exact HB.out | apply below_alloc | apply pw_below_drewN | apply below_drew1) | exact HB.out)))); have n1_ := Aside0.mk (below_step (by repeat (first | (with_reducible first | exact HB.out | apply below_alloc | apply pw_below_drewN | apply below_drew1) | exact HB.out)) hb); clear HB; have HO1098 := n0_; have HB := n1_; clear n0_ n1_; clear hb ho38) | ((with_reducible refine gate_builtin (b := .append) (xs := #[.tmp 23, .tmp 24]) rfl ?_); at_builtin; refine Kd.R_append_rows (Kd.int .u8) (w0 := w) w.heap.size rfl (.tmp 23) (.tmp 24) 22 5 (.int .u8 0) 1 rfl Try.underlying22 info5 rfl (by decide) (by omega) v1097 y1096 l1 _ _ _ (fun _ => True) (fun _ => False) rfl rfl ?aO ?aR (fun _ _ h => h) (fun _ h => h.elim) ?aF ?aB ?aS ?aL ?_; (case aR => repeat (first | exact (Kd.C_below HR1.out HB.out) | (with_reducible refine Kd.C_alloc ?_ _) | (with_reducible refine Kd.C_drewN ?_ _) | (with_reducible refine Kd.C_drew ?_))); (case aB => exact (by repeat (first | (with_reducible first | exact HB.out | apply below_alloc | apply pw_below_drewN | apply below_drew1) | exact HB.out))); (case aF => exact (fun _ _ => trivial)); (case aO => exact (by (with_reducible repeat (first | apply Kd.R_alloc | apply Kd.R_drewN | apply Kd.R_drew)); exact HO1098.out)); (case aS => exact (below_size (by repeat (first | (with_reducible first | exact HB.out | apply below_alloc | apply pw_below_drewN | apply below_drew1) | exact HB.out)))); (case aL => have := LMc8.out; omega); intro v1100 w39 ho hb hg hat; rw [← Ny1099.out] at ho; have n0_ := Aside0.mk (hb); have n1_ := Aside0.mk (ho); clear HB; clear HO1098; have HB := n0_; have HO1101 := n1_; clear n0_ n1_; clear ho hb hg hat; obtain ⟨Ao40, co40, eo40⟩ := Kd.R_slice HO1101.out; subst eo40) | ((with_reducible refine gate_callee (f := 58) rfl ?_); refine goesL_ (some 30) rfl rfl Try.func58 (by kernel_rfl) rfl #[.int .u8 a0, .slice Ao40 y1099.length co40, .int .i64 a2] rfl (by (try simp only [List.map_toArray, List.map_cons, List.map_nil]); first | done | rfl | (simp only [List.length_drop, List.length_take]; rfl)) ?_; (with_reducible refine (column_Get.calls a0 _ _ y1099 a2 t1102 t1103 _ ?side1 ?side2 A9.out).mono ?_); (case side1 => repeat (first | exact (Kd.R_reads' HO1101.out).2.2 | (with_reducible refine Kd.C_alloc ?_ _) | (with_reducible refine Kd.C_drewN ?_ _) | (with_reducible refine Kd.C_drew ?_))); (case side2 => exact (Kd.R_reads' HO1101.out).2.1); rintro e w41 ⟨v1104, rfl, ho0, hb⟩; refine ⟨_, rfl, ?_⟩; have n0_ := Aside0.mk (Kd.R_below (by (with_reducible repeat (first | apply Kd.R_alloc | apply Kd.R_drewN | apply Kd.R_drew)); exact HO1101.out) hb); have n1_ := Aside0.mk (Kd.R_lower ho0 (below_size (by repeat (first | (with_reducible first | exact HB.out | apply below_alloc | apply pw_below_drewN | apply below_drew1) | exact HB.out)))); have n2_ := Aside0.mk (below_step (by repeat (first | (with_reducible first | exact HB.out | apply below_alloc | apply pw_below_drewN | apply below_drew1) | exact HB.out)) hb); clear HO1101; clear HB; have HO1101 := n0_; have HO1105 := n1_; have HB := n2_; clear n0_ n1_ n2_; (try clear hb); (try clear hb2); (try clear hk); (try clear hi); (try clear ho0)) | ((with_reducible refine gate_callee (f := 59) rfl ?_); refine goesL_ (some 37) rfl rfl Try.func59 (by kernel_rfl) rfl #[.int .u8 a0, .slice A1 l1.length c1, .int .i64 a2] rfl (by (try simp only [List.map_toArray, List.map_cons, List.map_nil]); first | done | rfl | (simp only [List.length_drop, List.length_take]; rfl)) ?_; (with_reducible refine (tidelineref06_Get.calls kj3 a0 _ _ l1 a2 t1106 t1107 _ ?side1 ?side2 A10.out).mono ?_); (case side1 => repeat (first | exact (Kd.C_below HR1.out HB.out) | (with_reducible refine Kd.C_alloc ?_ _) | (with_reducible refine Kd.C_drewN ?_ _) | (with_reducible refine Kd.C_drew ?_))); (case side2 => exact HC1.out); rintro e w42 ⟨v1108, rfl, ho0, hb⟩; refine ⟨_, rfl, ?_⟩; have n0_ := Aside0.mk (Kd.R_below (by (with_reducible repeat (first | apply Kd.R_alloc | apply Kd.R_drewN | apply Kd.R_drew)); exact HO1101.out) hb); have n1_ := Aside0.mk (Kd.R_elder' (by (with_reducible repeat (first | apply Kd.R_alloc | apply Kd.R_drewN | apply Kd.R_drew)); exact HO1105.out) (Kd.R_base ho0) hb); have n2_ := Aside0.mk (Kd.R_lower (Kd.R_new' ho0 (Kd.R_lt (by (with_reducible repeat (first | apply Kd.R_alloc | apply Kd.R_drewN | apply Kd.R_drew)); exact HO1105.out))) (below_size (by repeat (first | (with_reducible first | exact HB.out | apply below_alloc | apply pw_below_drewN | apply below_drew1) | exact HB.out)))); have n3_ := Aside0.mk (below_step (by repeat (first | (with_reducible first | exact HB.out | apply below_alloc | apply pw_below_drewN | apply below_drew1) | exact HB.out)) hb); clear HO1101; clear HO1105; clear HB; have HO1101 := n0_; have HO1105 := n1_; have HO1109 := n2_; have HB := n3_; clear n0_ n1_ n2_ n3_; (try clear hb); (try clear hb2); (try clear hk); (try clear hi); (try clear ho0); obtain ⟨Ao43, co43, eo43⟩ := Kd.R_slice HO1105.out; subst eo43; obtain ⟨Ao44, co44, eo44⟩ := Kd.R_slice HO1109.out; subst eo44) | ((with_reducible refine gate_callee (f := 32) rfl ?_); refine goesL_ (some 42) rfl rfl Try.func32 (by kernel_rfl) rfl #[.slice Ao43 t1102.length co43, .slice Ao44 t1106.length co44] rfl (by (try simp only [List.map_toArray, List.map_cons, List.map_nil]); first | done | rfl | (simp only [List.length_drop, List.length_take]; rfl)) ?_; (with_reducible refine (tidelineref03_Same.calls kj3 _ _ t1102 _ _ t1106 true _ ?side1 ?side2 ?side3 ?side4 A11.out).mono ?_); (case side1 => repeat (first | exact (Kd.R_reads' HO1105.out).2.2 | (with_reducible refine Kd.C_alloc ?_ _) | (with_reducible refine Kd.C_drewN ?_ _) | (with_reducible refine Kd.C_drew ?_))); (case side2 => exact (Kd.R_reads' HO1105.out).2.1); (case side3 => repeat (first | exact (Kd.R_reads' HO1109.out).2.2 | (with_reducible refine Kd.C_alloc ?_ _) | (with_reducible refine Kd.C_drewN ?_ _) | (with_reducible refine Kd.C_drew ?_))); (case side4 => exact (Kd.R_reads' HO1109.out).2.1); rintro e w' ⟨rfl, ⟨nd, rfl⟩⟩; refine ⟨_, rfl, ?_⟩))
              go_ret
              exact ⟨by first | rfl | (simp [errW_none, errW_some] <;> rfl) | (simp [*, errW_none, errW_some] <;> rfl), by repeat (first | (with_reducible first | exact HB.out | apply below_alloc | apply pw_below_drewN | apply below_drew1) | exact HB.out)⟩
          · replace c12 := Bool.eq_false_iff.mpr c12
            subst c12
            have H1 : (some false) = some r := by rw [if_neg (show ¬ (false = true) by decide)] at H; exact H
            clear H
            have H := H1
            clear H1
            obtain rfl := Option.some.inj H
            go_wp2_with (first | ((with_reducible refine gate_dst (N := 23) rfl ?_); refine Kd.R_lit (Kd.int .u8) _ 5 ?hg (N := 23) ?hd (xs := ([] : List Int)) (inner := []) (ok := fun _ => True) (okp := fun _ => True) ?hr ?hp (fun _ hk => hk) trivial (Below.refl _ _) (Nat.le_refl _) (by simp) ?_; (case hd => rfl); (case hg => rfl); (case hr => first | (go_simp; done) | (go_simp; rfl)); (case hp => exact (Reps.none _ _)); intro v1097 w45 ho46 hb hg_ hnew_; clear hg_ hnew_; (first | rw [← Ny1096.out] at ho46 | (simp only [Int.reduceToNat] at ho46; rw [← Ny1096.out] at ho46)); have n0_ := Aside0.mk (Kd.R_lower ho46 (below_size (by repeat (first | (with_reducible first | exact HB.out | apply below_alloc | apply pw_below_drewN | apply below_drew1) | exact HB.out)))); have n1_ := Aside0.mk (below_step (by repeat (first | (with_reducible first | exact HB.out | apply below_alloc | apply pw_below_drewN | apply below_drew1) | exact HB.out)) hb); clear HB; have HO1098 := n0_; have HB := n1_; clear n0_ n1_; clear hb ho46) | ((with_reducible refine gate_builtin (b := .append) (xs := #[.tmp 23, .tmp 24]) rfl ?_); at_builtin; refine Kd.R_append_rows (Kd.int .u8) (w0 := w) w.heap.size rfl (.tmp 23) (.tmp 24) 22 5 (.int .u8 0) 1 rfl Try.underlying22 info5 rfl (by decide) (by omega) v1097 y1096 l1 _ _ _ (fun _ => True) (fun _ => False) rfl rfl ?aO ?aR (fun _ _ h => h) (fun _ h => h.elim) ?aF ?aB ?aS ?aL ?_; (case aR => repeat (first | exact (Kd.C_below HR1.out HB.out) | (with_reducible refine Kd.C_alloc ?_ _) | (with_reducible refine Kd.C_drewN ?_ _) | (with_reducible refine Kd.C_drew ?_))); (case aB => exact (by repeat (first | (with_reducible first | exact HB.out | apply below_alloc | apply pw_below_drewN | apply below_drew1) | exact HB.out))); (case aF => exact (fun _ _ => trivial)); (case aO => exact (by (with_reducible repeat (first | apply Kd.R_alloc | apply Kd.R_drewN | apply Kd.R_drew)); exact HO1098.out)); (case aS => exact (below_size (by repeat (first | (with_reducible first | exact HB.out | apply below_alloc | apply pw_below_drewN | apply below_drew1) | exact HB.out)))); (case aL => have := LMc8.out; omega); intro v1100 w47 ho hb hg hat; rw [← Ny1099.out] at ho; have n0_ := Aside0.mk (hb); have n1_ := Aside0.mk (ho); clear HB; clear HO1098; have HB := n0_; have HO1101 := n1_; clear n0_ n1_; clear ho hb hg hat; obtain ⟨Ao48, co48, eo48⟩ := Kd.R_slice HO1101.out; subst eo48) | ((with_reducible refine gate_callee (f := 58) rfl ?_); refine goesL_ (some 30) rfl rfl Try.func58 (by kernel_rfl) rfl #[.int .u8 a0, .slice Ao48 y1099.length co48, .int .i64 a2] rfl (by (try simp only [List.map_toArray, List.map_cons, List.map_nil]); first | done | rfl | (simp only [List.length_drop, List.length_take]; rfl)) ?_; (with_reducible refine (column_Get.calls a0 _ _ y1099 a2 t1102 t1103 _ ?side1 ?side2 A9.out).mono ?_); (case side1 => repeat (first | exact (Kd.R_reads' HO1101.out).2.2 | (with_reducible refine Kd.C_alloc ?_ _) | (with_reducible refine Kd.C_drewN ?_ _) | (with_reducible refine Kd.C_drew ?_))); (case side2 => exact (Kd.R_reads' HO1101.out).2.1); rintro e w49 ⟨v1104, rfl, ho0, hb⟩; refine ⟨_, rfl, ?_⟩; have n0_ := Aside0.mk (Kd.R_below (by (with_reducible repeat (first | apply Kd.R_alloc | apply Kd.R_drewN | apply Kd.R_drew)); exact HO1101.out) hb); have n1_ := Aside0.mk (Kd.R_lower ho0 (below_size (by repeat (first | (with_reducible first | exact HB.out | apply below_alloc | apply pw_below_drewN | apply below_drew1) | exact HB.out)))); have n2_ := Aside0.mk (below_step (by repeat (first | (with_reducible first | exact HB.out | apply below_alloc | apply pw_below_drewN | apply below_drew1) | exact HB.out)) hb); clear HO1101; clear HB; have HO1101 := n0_; have HO1105 := n1_; have HB := n2_; clear n0_ n1_ n2_; (try clear hb); (try clear hb2); (try clear hk); (try clear hi); (try clear ho0)) | ((with_reducible refine gate_callee (f := 59) rfl ?_); refine goesL_ (some 37) rfl rfl Try.func59 (by kernel_rfl) rfl #[.int .u8 a0, .slice A1 l1.length c1, .int .i64 a2] rfl (by (try simp only [List.map_toArray, List.map_cons, List.map_nil]); first | done | rfl | (simp only [List.length_drop, List.length_take]; rfl)) ?_; (with_reducible refine (tidelineref06_Get.calls kj3 a0 _ _ l1 a2 t1106 t1107 _ ?side1 ?side2 A10.out).mono ?_); (case side1 => repeat (first | exact (Kd.C_below HR1.out HB.out) | (with_reducible refine Kd.C_alloc ?_ _) | (with_reducible refine Kd.C_drewN ?_ _) | (with_reducible refine Kd.C_drew ?_))); (case side2 => exact HC1.out); rintro e w50 ⟨v1108, rfl, ho0, hb⟩; refine ⟨_, rfl, ?_⟩; have n0_ := Aside0.mk (Kd.R_below (by (with_reducible repeat (first | apply Kd.R_alloc | apply Kd.R_drewN | apply Kd.R_drew)); exact HO1101.out) hb); have n1_ := Aside0.mk (Kd.R_elder' (by (with_reducible repeat (first | apply Kd.R_alloc | apply Kd.R_drewN | apply Kd.R_drew)); exact HO1105.out) (Kd.R_base ho0) hb); have n2_ := Aside0.mk (Kd.R_lower (Kd.R_new' ho0 (Kd.R_lt (by (with_reducible repeat (first | apply Kd.R_alloc | apply Kd.R_drewN | apply Kd.R_drew)); exact HO1105.out))) (below_size (by repeat (first | (with_reducible first | exact HB.out | apply below_alloc | apply pw_below_drewN | apply below_drew1) | exact HB.out)))); have n3_ := Aside0.mk (below_step (by repeat (first | (with_reducible first | exact HB.out | apply below_alloc | apply pw_below_drewN | apply below_drew1) | exact HB.out)) hb); clear HO1101; clear HO1105; clear HB; have HO1101 := n0_; have HO1105 := n1_; have HO1109 := n2_; have HB := n3_; clear n0_ n1_ n2_ n3_; (try clear hb); (try clear hb2); (try clear hk); (try clear hi); (try clear ho0); obtain ⟨Ao51, co51, eo51⟩ := Kd.R_slice HO1105.out; subst eo51; obtain ⟨Ao52, co52, eo52⟩ := Kd.R_slice HO1109.out; subst eo52) | ((with_reducible refine gate_callee (f := 32) rfl ?_); refine goesL_ (some 42) rfl rfl Try.func32 (by kernel_rfl) rfl #[.slice Ao51 t1102.length co51, .slice Ao52 t1106.length co52] rfl (by (try simp only [List.map_toArray, List.map_cons, List.map_nil]); first | done | rfl | (simp only [List.length_drop, List.length_take]; rfl)) ?_; (with_reducible refine (tidelineref03_Same.calls kj3 _ _ t1102 _ _ t1106 false _ ?side1 ?side2 ?side3 ?side4 A11.out).mono ?_); (case side1 => repeat (first | exact (Kd.R_reads' HO1105.out).2.2 | (with_reducible refine Kd.C_alloc ?_ _) | (with_reducible refine Kd.C_drewN ?_ _) | (with_reducible refine Kd.C_drew ?_))); (case side2 => exact (Kd.R_reads' HO1105.out).2.1); (case side3 => repeat (first | exact (Kd.R_reads' HO1109.out).2.2 | (with_reducible refine Kd.C_alloc ?_ _) | (with_reducible refine Kd.C_drewN ?_ _) | (with_reducible refine Kd.C_drew ?_))); (case side4 => exact (Kd.R_reads' HO1109.out).2.1); rintro e w' ⟨rfl, ⟨nd, rfl⟩⟩; refine ⟨_, rfl, ?_⟩))
            go_ret
            exact ⟨by first | rfl | (simp [errW_none, errW_some] <;> rfl) | (simp [*, errW_none, errW_some] <;> rfl), by repeat (first | (with_reducible first | exact HB.out | apply below_alloc | apply pw_below_drewN | apply below_drew1) | exact HB.out)⟩
        · rw [if_neg c8] at H
          exact absurd H (by simp)

end Go.Proofs.Ytlmcefhpnfoahaa.P
end

section
namespace Go.Proofs.Ytlmcefhpnfoahaa.P
open Go.RowKit Go.Proofs.YtlmcefhpnfoahaaW.PrintWords Go.Proofs.YtlmcefhpnfoahaaW.PrintLast Go.Proofs.YtlmcefhpnfoahaaW.PrintMore
set_option linter.unusedVariables false
set_option linter.unusedSimpArgs false

theorem ba_inj {a b : ByteArray} (h : a.toList = b.toList) : a = b := by
  rw [ByteArray.toList_eq, ByteArray.toList_eq] at h
  exact WideShapes.bytes_inj h
theorem which_l0 (W : List ByteArray) (s : ByteArray) (hW : W.length ≤ 1000000) : ∀ (d k i : Nat), i + d = W.length → d < k → tidelineref06_Which.l0 k W s (i : Int) = some ((i + (W.drop i).idxOf s : Nat) : Int) := by
  intro d
  induction d with
  | zero =>
    intro k i hi hk
    obtain ⟨k, rfl⟩ : ∃ j, k = j + 1 := ⟨k - 1, by omega⟩
    rw [tidelineref06_Which.l0, if_neg (by omega), List.drop_of_length_le (by omega)]
    simp
  | succ d ih =>
    intro k i hi hk
    obtain ⟨k, rfl⟩ : ∃ j, k = j + 1 := ⟨k - 1, by omega⟩
    have hlt : i < W.length := by omega
    have hr : rdOf ByteArray.empty W (i : Int) = W[i] := by simp [rdOf, List.getD_eq_getElem?_getD, hlt]
    rw [tidelineref06_Which.l0, if_pos (by omega), if_pos (by omega), hr, List.drop_eq_getElem_cons hlt, List.idxOf_cons]
    by_cases h : W[i] = s
    · rw [if_pos (by rw [h]), h]; simp
    · rw [if_neg (fun e => h (ba_inj e)), w64s i (by omega), ih k (i + 1) (by omega) (by omega)]
      have : (W[i] == s) = false := beq_eq_false_iff_ne.mpr h
      rw [this]
      simp
      omega
theorem which_f (W : List ByteArray) (s : ByteArray) (hW : W.length ≤ 1000000) (k : Nat) (hk : W.length < k) : tidelineref06_Which.f k W s = some ((W.idxOf s : Nat) : Int) := by
  have := which_l0 W s hW W.length k 0 (by omega) hk
  unfold tidelineref06_Which.f
  simpa using this
theorem words_l0 (l : List S39) (hl : l.length ≤ 100000) (h3 : ∀ x ∈ l, x.f0 = 3) : ∀ (d k i : Nat), i + d = l.length → d + l.length + 2 < k → tidelineref06_Words.l0 k l (wdK l i) (i : Int) = some (wdK l l.length) := by
  intro d
  induction d with
  | zero =>
    intro k i hi hk
    obtain ⟨k, rfl⟩ : ∃ j, k = j + 1 := ⟨k - 1, by omega⟩
    obtain rfl : i = l.length := by omega
    rw [tidelineref06_Words.l0, if_neg (by omega)]
  | succ d ih =>
    intro k i hi hk
    obtain ⟨k, rfl⟩ : ∃ j, k = j + 1 := ⟨k - 1, by omega⟩
    have hlt : i < l.length := by omega
    have hw := wdK_len l i
    have hs := wdK_succ l i hlt
    have hih := ih k (i + 1) (by omega) (by omega)
    rw [hs] at hih
    rw [tidelineref06_Words.l0, if_pos (by omega), if_pos (by omega), if_pos (h3 _ (rdT_mem hlt)), which_f _ _ (by omega) k (by omega), Option.bind_some, w64s i (by omega)]
    by_cases hm : (rd_T39 l (i : Int)).f2 ∈ wdK l i
    · rw [if_pos hm] at hih
      have := List.idxOf_lt_length_of_mem hm
      rw [if_neg (by omega)]
      exact hih
    · rw [if_neg hm] at hih
      have e : (wdK l i).idxOf (rd_T39 l (i : Int)).f2 = (wdK l i).length := List.idxOf_eq_length hm
      rw [if_pos (by omega), if_pos (by omega)]
      exact hih
theorem words_f (l : List S39) (hl : l.length ≤ 100000) (h3 : ∀ x ∈ l, x.f0 = 3) (k : Nat) (hk : 2 * l.length + 2 < k) : tidelineref06_Words.f k l = some (wordsOf [] (l.map S39.f2)) := by
  have := words_l0 l hl h3 l.length k 0 (by omega) (by omega)
  unfold tidelineref06_Words.f
  have e : wdK l l.length = wordsOf [] (l.map S39.f2) := by unfold wdK txK; rw [List.take_length]
  rw [← e]
  exact this
/-- append(v, s...), s a string. -/
theorem Own.text {ops : Array Oper} {rest : List Oper} {o : Oper} {a : Act} {Q : Exit → Act → World → Prop} {B : Nat} {w0 W : World} {v : Value} {xs : List Int} (hO : Own (Kd.int .u8) 5 B w0 W v xs) (hgd : o.guard = none) (s x : Operand) (y : ByteArray)
    (ho : o.op = .call { callee := .builtin .append, args := #[s, x], argTypes := #[22, 9] }) (hs : a.eval s = v) (hx : a.eval x = .string y) (hl : xs.length + y.size ≤ 140737488355328)
    (h : ∀ v1 w1, Own (Kd.int .u8) 5 B w0 w1 v1 (xs ++ bytesOf y) → wpList Try.prog ops Q rest (a.put o.dst v1) w1) :
    wpList Try.prog ops Q (o :: rest) a W := by
  obtain ⟨i0, hi, hzz⟩ := Option.map_eq_some_iff.1 info5
  simp only [Prod.mk.injEq] at hzz
  obtain ⟨hz0, hz1, hz2⟩ := hzz
  have HO := Kd.own_of_R hO.r
  obtain ⟨v1, w1, hr, hown, hg, _⟩ := Lib.run_append_own_string (P := Try.prog) W B 22 9 o.type 5 i0 Try.underlying22 Try.underlying9 hi hz0 hz1 hz2 v xs.length _ HO y (by simp only [maxLen]; omega) hl hO.s
  have hl2 : (xs ++ bytesOf y).length = xs.length + y.size := by rw [List.length_append, bytesOf_length]
  have hc : encs (fun n : Int => Value.int .u8 n) (xs ++ bytesOf y) = encs (fun n : Int => Value.int .u8 n) xs ++ Lib.strCells y := by
    simp [encs, bytesOf, Lib.strCells]
  have hb := hO.b.grown hg hO.s (own_base HO)
  refine wpList_plain hgd fun K hK => ?_
  unfold Oper.wp execOp
  simp only [ho, resolve, invoke, builtin, Sem.run_bind, Sem.run_pure, Result.andThen_ok, List.map_toArray, List.map_cons, List.map_nil, hs, hx, hr]
  exact hK _ _ (h v1 w1 ⟨Kd.R_of_own (by rw [hl2, hc]; exact hown) (fun _ _ => trivial), hb, by have := hg.size; have := hO.s; omega⟩)
end Go.Proofs.Ytlmcefhpnfoahaa.P
end

section
namespace Go.Proofs.Ytlmcefhpnfoahaa.P
open Go.RowKit Go.Proofs.YtlmcefhpnfoahaaW.PrintWords Go.Proofs.YtlmcefhpnfoahaaW.PrintLast Go.Proofs.YtlmcefhpnfoahaaW.PrintMore
set_option linter.unusedVariables false
set_option linter.unusedSimpArgs false

end Go.Proofs.Ytlmcefhpnfoahaa.P
end

section
namespace Go.Proofs.Ytlmcefhpnfoahaa.P
open Go.RowKit Go.Proofs.YtlmcefhpnfoahaaW.PrintWords Go.Proofs.YtlmcefhpnfoahaaW.PrintLast Go.Proofs.YtlmcefhpnfoahaaW.PrintMore
attribute [local go_sem] max2_int min2_int max_two min_two max_three min_three max_four min_four   -- for this text's walks alone
set_option linter.unusedVariables false
set_option linter.unusedSimpArgs false

end Go.Proofs.Ytlmcefhpnfoahaa.P
end

section
namespace Go.Proofs.Ytlmcefhpnfoahaa.P
open Go.RowKit Go.Proofs.YtlmcefhpnfoahaaW.PrintWords Go.Proofs.YtlmcefhpnfoahaaW.PrintLast Go.Proofs.YtlmcefhpnfoahaaW.PrintMore
attribute [local go_sem] max2_int min2_int max_two min_two max_three min_three max_four min_four   -- for this text's walks alone
set_option linter.unusedVariables false
set_option linter.unusedSimpArgs false

end Go.Proofs.Ytlmcefhpnfoahaa.P
end

section
namespace Go.Proofs.Ytlmcefhpnfoahaa.P
open Go.RowKit Go.Proofs.YtlmcefhpnfoahaaW.PrintWords Go.Proofs.YtlmcefhpnfoahaaW.PrintLast Go.Proofs.YtlmcefhpnfoahaaW.PrintMore
attribute [local go_sem] max2_int min2_int max_two min_two max_three min_three max_four min_four   -- for this text's walks alone
set_option linter.unusedVariables false
set_option linter.unusedSimpArgs false

end Go.Proofs.Ytlmcefhpnfoahaa.P
end

section
namespace Go.Proofs.Ytlmcefhpnfoahaa.P
open Go.RowKit Go.Proofs.YtlmcefhpnfoahaaW.PrintWords Go.Proofs.YtlmcefhpnfoahaaW.PrintLast Go.Proofs.YtlmcefhpnfoahaaW.PrintMore
attribute [local go_sem] max2_int min2_int max_two min_two max_three min_three max_four min_four   -- for this text's walks alone
set_option linter.unusedVariables false
set_option linter.unusedSimpArgs false

end Go.Proofs.Ytlmcefhpnfoahaa.P
end

section
namespace Go.Proofs.Ytlmcefhpnfoahaa.P
open Go.RowKit Go.Proofs.YtlmcefhpnfoahaaW.PrintWords Go.Proofs.YtlmcefhpnfoahaaW.PrintLast Go.Proofs.YtlmcefhpnfoahaaW.PrintMore
attribute [local go_sem] max2_int min2_int max_two min_two max_three min_three max_four min_four   -- for this text's walks alone
set_option linter.unusedVariables false
set_option linter.unusedSimpArgs false

end Go.Proofs.Ytlmcefhpnfoahaa.P
end

section
namespace Go.Proofs.Ytlmcefhpnfoahaa.P
open Go.RowKit Go.Proofs.YtlmcefhpnfoahaaW.PrintWords Go.Proofs.YtlmcefhpnfoahaaW.PrintLast Go.Proofs.YtlmcefhpnfoahaaW.PrintMore
set_option linter.unusedVariables false
set_option linter.unusedSimpArgs false

end Go.Proofs.Ytlmcefhpnfoahaa.P
end

section
namespace Go.Proofs.Ytlmcefhpnfoahaa.P
open Go.RowKit Go.Proofs.YtlmcefhpnfoahaaW.PrintWords Go.Proofs.YtlmcefhpnfoahaaW.PrintLast Go.Proofs.YtlmcefhpnfoahaaW.PrintMore
set_option linter.unusedVariables false
set_option linter.unusedSimpArgs false

theorem refGet_k (l : List Int) (hl : l.length ≤ 1000000) (hb : ∀ x ∈ l, isByte x = true) (k : Nat) (hk : 31 ≤ k) : tidelineref02_Get.f k l = some (vget l) :=
  leO_le (g := fun k => tidelineref02_Get.f k l) (tidelineref02_Get.mono l) hk (refGet_f l hl hb)
theorem shr_bit (b : List Int) (hb : ∀ x ∈ b, isByte x = true) (i : Nat) : (Int.tmod (shr .u8 (rd b ((i / 8 : Nat) : Int)) ((i % 8 : Nat) : Int)) 2 = 1) ↔ bitAt b i = true := by
  unfold shr bitAt
  rw [Int.toNat_natCast, show IntKind.u8.bits = 8 from rfl, Nat.min_eq_left (by omega)]
  have h0 : 0 ≤ rd b ((i / 8 : Nat) : Int) := by
    obtain ⟨c, _, e⟩ := byte_nat hb (i / 8)
    omega
  have hp : (0 : Int) < 2 ^ (i % 8) := Int.pow_pos (by decide)
  have hd : 0 ≤ rd b ((i / 8 : Nat) : Int) / 2 ^ (i % 8) := Int.ediv_nonneg h0 (by omega)
  rw [Int.tmod_eq_emod_of_nonneg hd, beq_iff_eq]
def looseF (b : List Int) (i d : Nat) : Bool := (List.range d).any fun j => bitAt b (i + j)
theorem looseF_succ (b : List Int) (i d : Nat) : looseF b i (d + 1) = (bitAt b i || looseF b (i + 1) d) := by
  unfold looseF
  rw [List.range_succ_eq_map, List.any_cons, List.any_map, Nat.add_zero]
  congr 1
  congr 1
  funext j
  show bitAt b (i + (j + 1)) = bitAt b (i + 1 + j)
  congr 1; omega
end Go.Proofs.Ytlmcefhpnfoahaa.P
end

section
namespace Go.Proofs.Ytlmcefhpnfoahaa.P
open Go.RowKit Go.Proofs.YtlmcefhpnfoahaaW.PrintWords Go.Proofs.YtlmcefhpnfoahaaW.PrintLast Go.Proofs.YtlmcefhpnfoahaaW.PrintMore
set_option linter.unusedVariables false
set_option linter.unusedSimpArgs false

theorem shr_bitB (b : List Int) (hb : ∀ x ∈ b, isByte x = true) (i : Nat) : (Int.tmod (shr .u8 (rd b ((i / 8 : Nat) : Int)) ((i % 8 : Nat) : Int)) 2 == 1) = bitAt b i := by
  rw [Bool.eq_iff_iff, beq_iff_eq]
  exact shr_bit b hb i
theorem refBits_hi (b : List Int) (hb : ∀ x ∈ b, isByte x = true) (n : Nat) (hn : n ≤ 70000) (hl : (n + 7) / 8 ≤ b.length) (X : List Bool) : ∀ (d k i : Nat), i + d = 8 * ((n + 7) / 8) → n ≤ i → 2 * d < k →
    tidelineref06_bits.l0 k b (n : Int) (((n + 7) / 8 : Nat) : Int) X (i : Int) = some (if looseF b i d = true then ([], 0, 21) else (X, (((n + 7) / 8 : Nat) : Int), 0)) := by
  intro d
  induction d with
  | zero =>
    intro k i hi hni hk
    obtain ⟨k, rfl⟩ : ∃ j, k = j + 1 := ⟨k - 1, by omega⟩
    have e8 : wrap64 (8 * (((n + 7) / 8 : Nat) : Int)) = ((8 * ((n + 7) / 8) : Nat) : Int) := by unfold wrap64; omega
    rw [tidelineref06_bits.l0, e8, if_neg (by omega), if_neg (show ¬ looseF b i 0 = true by simp [looseF])]
  | succ d ih =>
    intro k i hi hni hk
    obtain ⟨k, rfl⟩ : ∃ j, k = j + 2 := ⟨k - 2, by omega⟩
    have e8 : wrap64 (8 * (((n + 7) / 8 : Nat) : Int)) = ((8 * ((n + 7) / 8) : Nat) : Int) := by unfold wrap64; omega
    rw [tidelineref06_bits.l0, e8, if_pos (by omega), tdiv8 i (by omega), tmod8, if_pos (by omega), if_pos (by omega), if_pos (by omega), shr_bitB b hb i, if_pos (by omega), tidelineref06_bits.j1, looseF_succ]
    by_cases hbit : bitAt b i = true
    · rw [if_pos hbit, hbit, Bool.true_or, if_pos rfl]
    · rw [if_neg hbit, if_neg (by omega), w64s i (by omega), ih k (i + 1) (by omega) (by omega) (by omega), Bool.eq_false_iff.mpr hbit, Bool.false_or]
def bitsR (b : List Int) (n : Nat) : List Bool × Int × Int :=
  if b.length < (n + 7) / 8 then ([], 0, 20) else if loose b n = true then ([], 0, 21) else ((List.range n).map (bitAt b), (((n + 7) / 8 : Nat) : Int), 0)
theorem refBits_lo (b : List Int) (hb : ∀ x ∈ b, isByte x = true) (n : Nat) (hn : n ≤ 70000) (hl : (n + 7) / 8 ≤ b.length) : ∀ (d k i : Nat), i + d = n → 2 * d + 20 < k →
    tidelineref06_bits.l0 k b (n : Int) (((n + 7) / 8 : Nat) : Int) ((List.range i).map (bitAt b)) (i : Int) = some (if loose b n = true then ([], 0, 21) else ((List.range n).map (bitAt b), (((n + 7) / 8 : Nat) : Int), 0)) := by
  intro d
  induction d with
  | zero =>
    intro k i hi hk
    obtain rfl : i = n := by omega
    exact refBits_hi b hb i hn hl _ (8 * ((i + 7) / 8) - i) k i (by omega) (Nat.le_refl _) (by omega)
  | succ d ih =>
    intro k i hi hk
    obtain ⟨k, rfl⟩ : ∃ j, k = j + 2 := ⟨k - 2, by omega⟩
    have e8 : wrap64 (8 * (((n + 7) / 8 : Nat) : Int)) = ((8 * ((n + 7) / 8) : Nat) : Int) := by unfold wrap64; omega
    have er : (List.range i).map (bitAt b) ++ [bitAt b i] = (List.range (i + 1)).map (bitAt b) := by rw [List.range_succ, List.map_append]; rfl
    rw [tidelineref06_bits.l0, e8, if_pos (by omega), tdiv8 i (by omega), tmod8, if_pos (by omega), if_pos (by omega), if_pos (by omega), shr_bitB b hb i, if_neg (by omega), tidelineref06_bits.j1, if_neg (by decide), if_pos (by omega), if_pos (by simp; omega), er, w64s i (by omega)]
    exact ih k (i + 1) (by omega) (by omega)
theorem refBits_f (b : List Int) (hb : ∀ x ∈ b, isByte x = true) (n : Nat) (hn : n ≤ 70000) (k : Nat) (hk : 2 * n + 20 < k) : tidelineref06_bits.f k b (n : Int) = some (bitsR b n) := by
  have e1 : wrap64 ((n : Int) + 7) = ((n + 7 : Nat) : Int) := by unfold wrap64; omega
  unfold tidelineref06_bits.f bitsR
  rw [e1, tdiv8 (n + 7) (by omega)]
  by_cases h : b.length < (n + 7) / 8
  · rw [if_pos (by omega), if_pos h]
  · rw [if_neg (by omega), if_neg h]
    exact refBits_lo b hb n hn (by omega) n k 0 (by omega) hk
def uwm (x : Int) : Int := x % 18446744073709551616
theorem uwm_eq (x : Int) : IntKind.u64.wrap x = uwm x := rfl
theorem uwm_inj (a b : Int) (ha : i64 a) (hb : i64 b) (h : uwm a = uwm b) : a = b := by unfold uwm at h; unfold i64 at ha hb; omega
theorem uwm_add (a b : Int) : uwm (uwm a + uwm b) = uwm (wrap64 (a + b)) := by unfold uwm wrap64; omega
theorem wrap64_uwm (a : Int) : wrap64 (uwm (wrap64 a)) = wrap64 a := by unfold uwm wrap64; omega
theorem rd_map (cs : List Int) (i : Nat) (h : i < cs.length) : rd (cs.map uwm) (i : Int) = uwm (rd cs (i : Int)) := by
  rw [rd_get (by simpa using h), rd_get h, List.getElem_map]
theorem refInts_l2 (cs : List Int) (hl : cs.length ≤ 1000000) : ∀ (d k i : Nat) (acc : List Int) (last step : Int), i + d = cs.length → d < k → acc.length = i → tidelineref05_Get.l2 k (cs.map uwm) acc (uwm step) (uwm last) (i : Int) = some (acc ++ sums last step (cs.drop i), 0) := by
  intro d
  induction d with
  | zero =>
    intro k i acc last step hi hk ha
    obtain ⟨k, rfl⟩ : ∃ j, k = j + 1 := ⟨k - 1, by omega⟩
    rw [tidelineref05_Get.l2, List.length_map, if_neg (by omega), List.drop_of_length_le (by omega), sums, List.append_nil]
  | succ d ih =>
    intro k i acc last step hi hk ha
    obtain ⟨k, rfl⟩ : ∃ j, k = j + 1 := ⟨k - 1, by omega⟩
    have hlt : i < cs.length := by omega
    rw [tidelineref05_Get.l2, List.length_map, if_pos (by omega), if_pos (by omega), if_pos (by omega), rd_map cs i hlt, uwm_eq, uwm_eq, uwm_add step (rd cs (i : Int)), uwm_add last (wrap64 (step + rd cs (i : Int))), wrap64_uwm, w64s i (by omega), ih k (i + 1) _ _ _ (by omega) (by omega) (by simp; omega), List.drop_eq_getElem_cons hlt, ← rd_get hlt, sums, List.append_assoc]
    rfl
theorem refInts_l1 (b : List Int) (n c : Int) (at_ : Int) (m : Nat) (hm : m ≤ 1000000) : ∀ (d k i : Nat) (X : List Int), i + d = m → X.length + d ≤ 2000000 →
    tidelineref05_Get.l1 (k + d + 1) b n X at_ (m : Int) c (i : Int) = tidelineref05_Get.l0 k b n (X ++ List.replicate d c) at_ := by
  intro d
  induction d with
  | zero =>
    intro k i X hi hX
    rw [Nat.add_zero, tidelineref05_Get.l1, if_neg (by omega), List.replicate_zero, List.append_nil]
  | succ d ih =>
    intro k i X hi hX
    have e : IntKind.u64.wrap ((i : Int) + 1) = ((i + 1 : Nat) : Int) := by rw [uwm_eq]; unfold uwm; omega
    rw [tidelineref05_Get.l1, if_pos (by omega), if_pos (by omega), e, show k + (d + 1) = k + d + 1 by omega, ih k (i + 1) _ (by omega) (by simp; omega), List.append_assoc]
    rfl
theorem zag_i64' (u : Int) (h0 : 0 ≤ u) (h1 : u ≤ 18446744073709551615) : i64 (zag u) := zag_range u h0 h1
def finI (X : List Int) (p : List Int × Int) : List Int × Int := if p.2 = 0 then (sums 0 0 (X ++ p.1), 0) else ([], p.2)
theorem refInts_l0 (b : List Int) (n : Nat) (hn : n ≤ 65536) (hl : b.length ≤ 1000000) (hb : ∀ x ∈ b, isByte x = true) : ∀ (f need k at_ : Nat) (X : List Int), need ≤ f → X.length + need = n → 5 * need + n + 40 ≤ k → at_ ≤ b.length → (∀ x ∈ X, i64 x) →
    tidelineref05_Get.l0 k b (n : Int) (X.map uwm) (at_ : Int) = some (finI X (getRuns f need X.getLast? (b.drop at_))) := by
  intro f
  induction f with
  | zero =>
    intro need k at_ X hf hX hk ha hx
    obtain rfl : need = 0 := by omega
    obtain ⟨k, rfl⟩ : ∃ j, k = j + 1 := ⟨k - 1, by omega⟩
    rw [tidelineref05_Get.l0, List.length_map, if_neg (by omega)]
    unfold getRuns
    rw [if_pos rfl, List.length_drop]
    by_cases h : 0 < b.length - at_
    · rw [if_neg (by omega), if_pos h]; rfl
    · have := refInts_l2 X (by omega) X.length k 0 [] 0 0 (by omega) (by omega) rfl
      rw [if_pos (by omega), if_neg h]
      unfold finI
      rw [if_pos rfl, List.append_nil]
      exact this
  | succ f ih =>
    intro need k at_ X hf hX hk ha hx
    obtain ⟨k, rfl⟩ : ∃ j, k = j + 1 := ⟨k - 1, by omega⟩
    rw [tidelineref05_Get.l0, List.length_map]
    unfold getRuns
    rw [List.length_drop]
    by_cases h0 : need = 0
    · subst h0
      rw [if_neg (by omega), if_pos rfl]
      by_cases h : 0 < b.length - at_
      · rw [if_neg (by omega), if_pos h]; rfl
      · have := refInts_l2 X (by omega) X.length k 0 [] 0 0 (by omega) (by omega) rfl
        rw [if_pos (by omega), if_neg h]
        unfold finI
        rw [if_pos rfl, List.append_nil]
        exact this
    rw [if_pos (by omega), if_neg h0]
    by_cases h1 : at_ = b.length
    · rw [if_pos (by omega), if_pos (by omega)]; rfl
    obtain ⟨B, hB⟩ : ∃ B, B = b.drop at_ := ⟨_, rfl⟩
    have hBy : ∀ x ∈ B, isByte x = true := fun x hx => hb x (by rw [hB] at hx; exact List.mem_of_mem_drop hx)
    have hBl : B.length = b.length - at_ := by rw [hB, List.length_drop]
    rw [if_neg (by omega), if_neg (show ¬ (b.length - at_ = 0) from by omega), if_pos (by omega), if_pos (by omega), Int.toNat_natCast, ← hB, refGet_k B (by omega) hBy k (by omega), Option.bind_some]
    have hr := vget_range B hBy
    obtain ⟨u, hu⟩ : ∃ u, u = vget B := ⟨_, rfl⟩
    rw [← hu] at hr ⊢
    by_cases h2 : u.2.2 = 0
    · rw [if_pos h2, if_neg (show ¬ (u.2.2 ≠ 0) from by simpa using h2)]
      obtain ⟨k, rfl⟩ : ∃ j, k = j + 1 := ⟨k - 1, by omega⟩
      by_cases h3 : u.1 = 0
      · rw [if_pos h3, if_pos (Or.inl h3), tidelineref05_Get.j2, if_pos rfl]; rfl
      rw [if_neg h3]
      have hw : IntKind.u64.wrap (wrap64 ((n : Int) - (X.length : Int))) = (need : Int) := by
        rw [uwm_eq, w64 (by omega) (by omega)]
        unfold uwm
        omega
      rw [hw]
      by_cases h4 : u.1 > need
      · rw [decide_eq_true h4, if_pos (Or.inr h4), tidelineref05_Get.j2, if_pos rfl]; rfl
      have hw2 : wrap64 ((at_ : Int) + u.2.1) = ((at_ + u.2.1.toNat : Nat) : Int) := by rw [w64 (by omega) (by omega)]; omega
      rw [decide_eq_false h4, tidelineref05_Get.j2, if_neg (by decide), hw2, if_pos (by omega), if_pos (by omega), Int.toNat_natCast, if_neg (show ¬ (u.1 = 0 ∨ u.1 > (need : Int)) from by omega)]
      obtain ⟨b1, hb1⟩ : ∃ b1, b1 = B.drop u.2.1.toNat := ⟨_, rfl⟩
      have hb1' : b.drop (at_ + u.2.1.toNat) = b1 := by rw [hb1, hB, List.drop_drop]
      have hb1y : ∀ x ∈ b1, isByte x = true := fun x hx => hBy x (by rw [hb1] at hx; exact List.mem_of_mem_drop hx)
      have hb1e : b1.length = B.length - u.2.1.toNat := by rw [hb1, List.length_drop]
      rw [hb1', ← hb1, refGet_k b1 (by omega) hb1y k (by omega), Option.bind_some]
      have hr2 := vget_range b1 hb1y
      obtain ⟨v, hv⟩ : ∃ v, v = vget b1 := ⟨_, rfl⟩
      rw [← hv] at hr2 ⊢
      by_cases h5 : v.2.2 = 0
      · obtain ⟨m, hm⟩ : ∃ m, m = u.1.toNat := ⟨_, rfl⟩
        have hum : u.1 = (m : Int) := by omega
        have hz := zag_i64' v.1 hr2.1 hr2.2.1
        rw [if_pos h5, if_neg (show ¬ (v.2.2 ≠ 0) from by simpa using h5), refZag_f v.1 hr2.1 hr2.2.1, Option.bind_some, uwm_eq]
        obtain ⟨C, hC⟩ : ∃ C, C = B.drop (u.2.1 + v.2.1).toNat := ⟨_, rfl⟩
        have hC' : b.drop (at_ + u.2.1.toNat + v.2.1.toNat) = C := by rw [hC, hB, List.drop_drop]; congr 1; omega
        rw [← hC, ← hm]
        have hgo : tidelineref05_Get.j3 k b (n : Int) (X.map uwm) ((at_ + u.2.1.toNat : Nat) : Int) u.1 v.2.1 (uwm (zag v.1)) false = some (finI (X ++ List.replicate m (zag v.1)) (getRuns f (need - m) (some (zag v.1)) C)) := by
          obtain ⟨k, rfl⟩ : ∃ j, k = j + 1 := ⟨k - 1, by omega⟩
          have hw3 : wrap64 (((at_ + u.2.1.toNat : Nat) : Int) + v.2.1) = ((at_ + u.2.1.toNat + v.2.1.toNat : Nat) : Int) := by rw [w64 (by omega) (by omega)]; omega
          rw [tidelineref05_Get.j3, if_neg (by decide), hw3, hum]
          obtain ⟨k, rfl⟩ : ∃ j, k = j + m + 1 := ⟨k - m - 1, by omega⟩
          have hl1 := refInts_l1 b (n : Int) (uwm (zag v.1)) ((at_ + u.2.1.toNat + v.2.1.toNat : Nat) : Int) m (by omega) m k 0 (X.map uwm) (by omega) (by rw [List.length_map]; omega)
          have hmp : X.map uwm ++ List.replicate m (uwm (zag v.1)) = (X ++ List.replicate m (zag v.1)).map uwm := by rw [List.map_append, List.map_replicate]
          have hlast : (X ++ List.replicate m (zag v.1)).getLast? = some (zag v.1) := by
            obtain ⟨m, rfl⟩ : ∃ j, m = j + 1 := ⟨m - 1, by omega⟩
            rw [List.replicate_succ', ← List.append_assoc, List.getLast?_concat]
          have hih := ih (need - m) k (at_ + u.2.1.toNat + v.2.1.toNat) (X ++ List.replicate m (zag v.1)) (by omega) (by rw [List.length_append, List.length_replicate]; omega) (by omega) (by omega) (fun x hx' => by
            rcases List.mem_append.mp hx' with h | h
            · exact hx x h
            · rw [(List.mem_replicate.mp h).2]; exact hz)
          rw [show ((0 : Nat) : Int) = 0 from rfl] at hl1
          rw [hl1, hmp, hih, hlast, hC']
        have hfin : ∀ p : List Int × Int, finI (X ++ List.replicate m (zag v.1)) p = finI X (if p.2 = 0 then (List.replicate m (zag v.1) ++ p.1, 0) else ([], p.2)) := by
          intro p
          unfold finI
          by_cases hp : p.2 = 0
          · rw [if_pos hp, if_pos hp, if_pos rfl, List.append_assoc]
          · rw [if_neg hp, if_neg hp, if_neg hp]
        rcases List.eq_nil_or_concat X with hXe | ⟨Y, z, hXe⟩
        · have hl0 : X.length = 0 := by rw [hXe]; rfl
          rw [List.length_map, if_neg (by omega), hgo, hfin, if_neg (show ¬ (X.getLast? = some (zag v.1)) from by rw [hXe]; simp)]
        · rw [List.concat_eq_append] at hXe
          have hl0 : X.length = Y.length + 1 := by rw [hXe]; simp
          have hw4 : wrap64 ((X.length : Int) - 1) = ((Y.length : Nat) : Int) := by rw [w64 (by omega) (by omega)]; omega
          have hrd : rd (X.map uwm) ((Y.length : Nat) : Int) = uwm z := by
            rw [rd_map X Y.length (by omega), rd_get (by omega)]
            congr 1
            simp [hXe]
          have hgl : X.getLast? = some z := by rw [hXe, List.getLast?_concat]
          rw [List.length_map, if_pos (by omega), hw4, if_pos (by omega), if_pos (by omega), hrd, hgl]
          by_cases h8 : z = zag v.1
          · obtain ⟨k, rfl⟩ : ∃ j, k = j + 1 := ⟨k - 1, by omega⟩
            rw [if_pos (by rw [h8]), h8, beq_self_eq_true, tidelineref05_Get.j3, if_pos rfl]; rfl
          · have hne : (uwm z == uwm (zag v.1)) = false := by
              rw [Bool.eq_false_iff]
              intro h
              exact h8 (uwm_inj _ _ (hx z (by rw [hXe]; simp)) hz (eq_of_beq h))
            rw [hne, hgo, hfin, if_neg (show ¬ ((some z : Option Int) = some (zag v.1)) from fun e => h8 (by injection e))]
      · rw [if_neg h5, if_pos (show v.2.2 ≠ 0 from h5)]
        unfold finI
        dsimp only
        rw [if_neg h5]
    · rw [if_neg h2, if_pos (show u.2.2 ≠ 0 from h2)]
      unfold finI
      dsimp only
      rw [if_neg h2]
theorem refInts_f (b : List Int) (n : Nat) (hn : n ≤ 65536) (hl : b.length ≤ 1000000) (hb : ∀ x ∈ b, isByte x = true) (k : Nat) (hk : 6 * n + 50 ≤ k) : tidelineref05_Get.f k b (n : Int) = some (getInts b n) := by
  obtain ⟨k, rfl⟩ : ∃ j, k = j + 1 := ⟨k - 1, by omega⟩
  have h := refInts_l0 b n hn hl hb n n k 0 [] (Nat.le_refl n) (by simp) (by omega) (Nat.zero_le _) (fun x hx => by cases hx)
  unfold tidelineref05_Get.f
  rw [if_neg (by omega), decide_eq_false (by omega), tidelineref05_Get.j0, if_neg (by decide)]
  rw [show ((0 : Nat) : Int) = 0 from rfl, List.map_nil] at h
  rw [h, List.drop_zero]
  unfold finI getInts
  rw [List.getLast?_nil, List.nil_append]
end Go.Proofs.Ytlmcefhpnfoahaa.P
end

section
namespace Go.Proofs.Ytlmcefhpnfoahaa.P
open Go.RowKit Go.Proofs.YtlmcefhpnfoahaaW.PrintWords Go.Proofs.YtlmcefhpnfoahaaW.PrintLast Go.Proofs.YtlmcefhpnfoahaaW.PrintMore
set_option linter.unusedVariables false
set_option linter.unusedSimpArgs false

theorem ba_list (a b : ByteArray) : a.toList = b.toList ↔ a = b := by
  constructor
  · intro h
    rw [ByteArray.toList_eq, ByteArray.toList_eq] at h
    have h3 : a.data = b.data := Array.toList_inj.mp h
    cases a
    cases b
    simpa using h3
  · intro h; rw [h]
theorem rdOf_get (W : List ByteArray) (i : Nat) (h : i < W.length) : rdOf ByteArray.empty W (i : Int) = W[i] := by
  unfold rdOf
  rw [Int.toNat_natCast, List.getD_eq_getElem?_getD, List.getElem?_eq_getElem h]
  rfl
theorem refRead_l2 (W V : List ByteArray) (X : List S39) (hl : V.length = W.length) (hW : W.length ≤ 1000000) : ∀ (d k i : Nat), i + d = W.length → d < k → tidelineref06_read.l2 k W X V (i : Int) = some (if V.drop i = W.drop i then (X, 0) else ([], 21)) := by
  intro d
  induction d with
  | zero =>
    intro k i hi hk
    obtain ⟨k, rfl⟩ : ∃ j, k = j + 1 := ⟨k - 1, by omega⟩
    rw [tidelineref06_read.l2, if_neg (by omega), List.drop_of_length_le (by omega), List.drop_of_length_le (by omega), if_pos rfl]
  | succ d ih =>
    intro k i hi hk
    obtain ⟨k, rfl⟩ : ∃ j, k = j + 1 := ⟨k - 1, by omega⟩
    have h1 : i < W.length := by omega
    have h2 : i < V.length := by omega
    have hiff := ba_list (rdOf ByteArray.empty V (i : Int)) (rdOf ByteArray.empty W (i : Int))
    rw [tidelineref06_read.l2, if_pos (by omega), if_pos (by omega), if_pos (by omega), w64s i (by omega), List.drop_eq_getElem_cons h1, List.drop_eq_getElem_cons h2, ← rdOf_get V i h2, ← rdOf_get W i h1]
    by_cases h : (rdOf ByteArray.empty V (i : Int)).toList = (rdOf ByteArray.empty W (i : Int)).toList
    · have e := hiff.mp h
      rw [if_pos h, ih k (i + 1) (by omega) (by omega), e]
      by_cases h3 : V.drop (i + 1) = W.drop (i + 1)
      · rw [if_pos h3, if_pos (by rw [h3])]
      · rw [if_neg h3, if_neg (fun h4 => h3 (by injection h4))]
    · rw [if_neg h, if_neg (fun h4 => h (hiff.mpr (by injection h4)))]
def finW (W : List ByteArray) (m : List ByteArray) (r : List Int) : List S39 × Int := if r = [] ∧ wordsOf [] m = W then (m.map mkT, 0) else ([], 21)
theorem refRead_l1 (b : List Int) (hl : b.length ≤ 400000) (hb : ∀ x ∈ b, isByte x = true) (W : List ByteArray) (hWl : W.length ≤ 70000) (n : Nat) (hn : n ≤ 70000) : ∀ (d k i at_ : Nat) (m : List ByteArray), i + d = n → d + 2 * n + W.length + 40 ≤ k → m.length = i → at_ ≤ b.length →
    tidelineref06_read.l1 k b (n : Int) (W.length : Int) (at_ : Int) W (m.map mkT) (i : Int) = some (if (getWhich W d (b.drop at_)).2.2 ≠ 0 then ([], (getWhich W d (b.drop at_)).2.2) else finW W (m ++ (getWhich W d (b.drop at_)).1) (getWhich W d (b.drop at_)).2.1) := by
  intro d
  induction d with
  | zero =>
    intro k i at_ m hi hk hm ha
    obtain ⟨k, rfl⟩ : ∃ j, k = j + 2 := ⟨k - 2, by omega⟩
    have e : getWhich W 0 (b.drop at_) = ([], b.drop at_, 0) := rfl
    have hw : tidelineref06_Words.f (k + 1) (m.map mkT) = some (wordsOf [] m) := by
      have := words_f (m.map mkT) (by rw [List.length_map]; omega) (fun x hx => by obtain ⟨s, hs, rfl⟩ := List.mem_map.mp hx; rfl) (k + 1) (by rw [List.length_map]; omega)
      rwa [map_mkT] at this
    rw [tidelineref06_read.l1, if_neg (by omega), hw, Option.bind_some, e, if_neg (show ¬ ((([], b.drop at_, (0 : Int)) : List ByteArray × List Int × Int).2.2 ≠ 0) from by simp)]
    unfold finW
    dsimp only
    rw [List.append_nil]
    by_cases h1 : at_ = b.length
    · have hd : b.drop at_ = [] := List.drop_of_length_le (by omega)
      rw [if_pos (by omega), hd, tidelineref06_read.j2]
      by_cases h2 : (wordsOf [] m).length = W.length
      · have := refRead_l2 W (wordsOf [] m) (m.map mkT) h2 (by omega) W.length k 0 (by omega) (by omega)
        rw [if_neg (by simp; omega)]
        rw [List.drop_zero, List.drop_zero] at this
        rw [show (0 : Int) = ((0 : Nat) : Int) from rfl, this]
        simp
      · rw [if_pos (by simp; omega), if_neg (fun h3 => h2 (by rw [h3.2]))]
    · rw [if_neg (by omega), tidelineref06_read.j2, if_pos rfl, if_neg (fun h3 => h1 (by
        have := congrArg List.length h3.1
        rw [List.length_drop] at this
        simp at this
        omega))]
  | succ d ih =>
    intro k i at_ m hi hk hm ha
    obtain ⟨k, rfl⟩ : ∃ j, k = j + 1 := ⟨k - 1, by omega⟩
    obtain ⟨r, hrr⟩ : ∃ r, r = b.drop at_ := ⟨_, rfl⟩
    have hrb : ∀ x ∈ r, isByte x = true := fun x hx => hb x (by rw [hrr] at hx; exact List.mem_of_mem_drop hx)
    have hrl : r.length = b.length - at_ := by rw [hrr, List.length_drop]
    have hr := vget_range r hrb
    rw [tidelineref06_read.l1, if_pos (by omega), if_pos (by omega), if_pos (by omega), Int.toNat_natCast, ← hrr, refGet_k r (by omega) hrb k (by omega), Option.bind_some]
    unfold getWhich
    obtain ⟨u, hu⟩ : ∃ u, u = vget r := ⟨_, rfl⟩
    rw [← hu] at hr ⊢
    by_cases h1 : u.2.2 = 0
    · rw [if_pos h1, if_neg (show ¬ (u.2.2 ≠ 0) from by simpa using h1)]
      by_cases h2 : u.1 ≥ (W.length : Int)
      · rw [if_pos h2, if_pos h2]; rfl
      · have hx : (m.map mkT) ++ [(⟨3, 0, rdOf ByteArray.empty W u.1⟩ : S39)] = (m ++ [W.getD u.1.toNat ⟨#[]⟩]).map mkT := by
          rw [List.map_append]; rfl
        have hw2 : wrap64 ((at_ : Int) + u.2.1) = ((at_ + u.2.1.toNat : Nat) : Int) := by rw [w64 (by omega) (by omega)]; omega
        have hdd : b.drop (at_ + u.2.1.toNat) = r.drop u.2.1.toNat := by rw [hrr, List.drop_drop]
        rw [if_neg h2, if_neg h2, if_pos hr.1, if_pos (by omega), if_pos (by rw [List.length_map]; omega), w64s i (by omega), hx, hw2,
          ih k (i + 1) (at_ + u.2.1.toNat) (m ++ [W.getD u.1.toNat ⟨#[]⟩]) (by omega) (by omega) (by simp [hm]) (by omega), hdd]
        by_cases h3 : (getWhich W d (r.drop u.2.1.toNat)).2.2 = 0
        · rw [if_neg (by simpa using h3), if_pos h3, if_neg (by simpa using h3), List.append_assoc]; rfl
        · rw [if_pos (by simpa using h3), if_neg h3, if_pos (by simpa using h3)]
    · rw [if_neg h1, if_pos (show u.2.2 ≠ 0 from h1), if_pos (show u.2.2 ≠ 0 from h1)]
theorem refRead_l0 (b : List Int) (hl : b.length ≤ 400000) (hb : ∀ x ∈ b, isByte x = true) (n many : Nat) (hn : n ≤ 70000) (hmn : many ≤ 70000) : ∀ (d k j at_ : Nat) (W : List ByteArray), j + d = many → d + 3 * n + many + 50 ≤ k → W.length = j → at_ ≤ b.length →
    tidelineref06_read.l0 k b (n : Int) (many : Int) (at_ : Int) W (j : Int) = some (if (getWords d (b.drop at_)).2.2 ≠ 0 then ([], (getWords d (b.drop at_)).2.2) else if (getWhich (W ++ (getWords d (b.drop at_)).1) n (getWords d (b.drop at_)).2.1).2.2 ≠ 0 then ([], (getWhich (W ++ (getWords d (b.drop at_)).1) n (getWords d (b.drop at_)).2.1).2.2) else finW (W ++ (getWords d (b.drop at_)).1) (getWhich (W ++ (getWords d (b.drop at_)).1) n (getWords d (b.drop at_)).2.1).1 (getWhich (W ++ (getWords d (b.drop at_)).1) n (getWords d (b.drop at_)).2.1).2.1) := by
  intro d
  induction d with
  | zero =>
    intro k j at_ W hj hk hW ha
    obtain ⟨k, rfl⟩ : ∃ i, k = i + 1 := ⟨k - 1, by omega⟩
    have h := refRead_l1 b hl hb W (by omega) n hn n k 0 at_ [] (by omega) (by omega) rfl ha
    obtain rfl : many = W.length := by omega
    rw [tidelineref06_read.l0, if_neg (by omega)]
    unfold getWords
    rw [if_neg (by simp)]
    simp only [List.append_nil, List.nil_append, List.map_nil] at h ⊢
    exact h
  | succ d ih =>
    intro k j at_ W hj hk hW ha
    obtain ⟨k, rfl⟩ : ∃ i, k = i + 1 := ⟨k - 1, by omega⟩
    obtain ⟨r, hrr⟩ : ∃ r, r = b.drop at_ := ⟨_, rfl⟩
    have hrb : ∀ x ∈ r, isByte x = true := fun x hx => hb x (by rw [hrr] at hx; exact List.mem_of_mem_drop hx)
    have hrl : r.length = b.length - at_ := by rw [hrr, List.length_drop]
    have hr := vget_range r hrb
    rw [tidelineref06_read.l0, if_pos (by omega), if_pos (by omega), if_pos (by omega), Int.toNat_natCast, ← hrr, refGet_k r (by omega) hrb k (by omega), Option.bind_some]
    unfold getWords
    obtain ⟨u, hu⟩ : ∃ u, u = vget r := ⟨_, rfl⟩
    rw [← hu] at hr ⊢
    by_cases h1 : u.2.2 = 0
    · rw [if_pos h1, if_neg (show ¬ (u.2.2 ≠ 0) from by simpa using h1)]
      have hw0 : wrap64 ((b.length : Int) - (at_ : Int)) = (r.length : Int) := by rw [w64 (by omega) (by omega)]; omega
      have hw : IntKind.u64.wrap (wrap64 ((r.length : Int) - u.2.1)) = (r.length : Int) - u.2.1 := by
        show wrap64 ((r.length : Int) - u.2.1) % 18446744073709551616 = _
        rw [w64 (by omega) (by omega)]
        omega
      rw [hw0, hw]
      by_cases h2 : u.1 > (r.length : Int) - u.2.1
      · rw [if_pos h2, if_pos h2]; rfl
      · have hw1 : wrap64 u.1 = u.1 := w64 (by omega) (by omega)
        have hw2 : wrap64 ((at_ : Int) + u.2.1) = ((at_ + u.2.1.toNat : Nat) : Int) := by rw [w64 (by omega) (by omega)]; omega
        have hw3 : wrap64 (((at_ + u.2.1.toNat : Nat) : Int) + u.1) = ((at_ + (u.2.1 + u.1).toNat : Nat) : Int) := by rw [w64 (by omega) (by omega)]; omega
        have hu64 : IntKind.u64.wrap ((j : Int) + 1) = ((j + 1 : Nat) : Int) := by
          show ((j : Int) + 1) % 18446744073709551616 = _
          omega
        have hcut : ((b.take (at_ + (u.2.1 + u.1).toNat)).drop (at_ + u.2.1.toNat)) = ((r.take (u.2.1 + u.1).toNat).drop u.2.1.toNat) := by
          rw [hrr, ← List.drop_drop, List.drop_take, Nat.add_sub_cancel_left]
        have hdd : b.drop (at_ + (u.2.1 + u.1).toNat) = r.drop (u.2.1 + u.1).toNat := by rw [hrr, List.drop_drop]
        rw [if_neg h2, if_neg h2, hw2, hw1, hw3, if_pos (by omega), if_pos (by omega), if_pos (by omega), if_pos (by omega), hu64, Int.toNat_natCast, Int.toNat_natCast, hcut,
          ih k (j + 1) (at_ + (u.2.1 + u.1).toNat) (W ++ [strOfNums ((r.take (u.2.1 + u.1).toNat).drop u.2.1.toNat)]) (by omega) (by omega) (by simp [hW]) (by omega), hdd]
        by_cases h3 : (getWords d (r.drop (u.2.1 + u.1).toNat)).2.2 = 0
        · rw [if_neg (by simpa using h3), if_pos h3]
          dsimp only
          rw [if_neg (show ¬ ((getWords d (r.drop (u.2.1 + u.1).toNat)).2.2 ≠ 0) from by simpa using h3), List.append_assoc]
          rfl
        · rw [if_pos (by simpa using h3), if_neg h3]
          dsimp only
          rw [if_pos (show (getWords d (r.drop (u.2.1 + u.1).toNat)).2.2 ≠ 0 from h3)]
    · rw [if_neg h1, if_pos (show u.2.2 ≠ 0 from h1)]
      dsimp only
      rw [if_pos (show u.2.2 ≠ 0 from h1)]
theorem words_nodup : ∀ (m acc : List ByteArray), acc.Nodup → (wordsOf acc m).Nodup := by
  intro m
  induction m with
  | nil => intro acc h; exact h
  | cons s m ih =>
    intro acc h
    unfold wordsOf
    apply ih
    split
    · exact h
    · rename_i hs
      rw [List.nodup_append]
      exact ⟨h, by simp, fun a ha c hc hac => by simp at hc; subst hc; subst hac; exact hs ha⟩
theorem getWords_inv : ∀ (k : Nat) (b : List Int), (∀ x ∈ b, isByte x = true) → (getWords k b).2.2 = 0 → b = (getWords k b).1.flatMap encT ++ (getWords k b).2.1 ∧ (getWords k b).1.length = k := by
  intro k
  induction k with
  | zero => intro b hb h; exact ⟨rfl, rfl⟩
  | succ k ih =>
    intro b hb h
    have hr := vget_range b hb
    have hv := vput_vget b hb
    unfold getWords at h ⊢
    obtain ⟨u, hu⟩ : ∃ u, u = vget b := ⟨_, rfl⟩
    rw [← hu] at hr hv h ⊢
    by_cases h1 : u.2.2 ≠ 0
    · rw [if_pos h1] at h; exact absurd h h1
    rw [if_neg h1] at h ⊢
    by_cases h2 : u.1 > (b.length : Int) - u.2.1
    · rw [if_pos h2] at h; simp at h
    rw [if_neg h2] at h ⊢
    by_cases h3 : (getWords k (b.drop (u.2.1 + u.1).toNat)).2.2 = 0
    · rw [if_pos h3]
      obtain ⟨g1, g2⟩ := ih (b.drop (u.2.1 + u.1).toNat) (fun x hx => hb x (List.mem_of_mem_drop hx)) h3
      obtain ⟨r, e1, e2, e3, e4⟩ := hv (by simpa using h1)
      refine ⟨?_, by simp [g2]⟩
      dsimp only
      obtain ⟨V, hV⟩ : ∃ V, V = vput 9 u.1 := ⟨_, rfl⟩
      rw [← hV] at e1 e2
      obtain ⟨n, hn⟩ : ∃ n : Nat, u.1 = (n : Int) := ⟨u.1.toNat, by omega⟩
      have hbl : b.length = V.length + r.length := by rw [e1, List.length_append]
      have ht : (u.2.1 + u.1).toNat = V.length + n := by omega
      have ht1 : u.2.1.toNat = V.length := by omega
      have ed : b.drop (V.length + n) = r.drop n := by rw [e1, ← List.drop_drop, List.drop_left]
      have ec : ((b.take (V.length + n)).drop V.length) = r.take n := by rw [e1, List.take_length_add_append, List.drop_left]
      rw [ht, ed] at g1
      rw [ht, ht1, ed, ec, List.flatMap_cons, List.append_assoc, ← g1]
      have hsz : (strOfNums (r.take n)).size = n := by
        have : (strOfNums (r.take n)).size = (r.take n).length := by simp [strOfNums, ByteArray.size]
        rw [this, List.length_take]
        omega
      have hby : bytesOf (strOfNums (r.take n)) = r.take n := bytesOf_strOfNums _ (fun x hx => hb x (by rw [e1]; exact List.mem_append_right _ (List.mem_of_mem_take hx)))
      unfold encT
      rw [hsz, hby, ← hn, ← hV, List.append_assoc, List.take_append_drop]
      exact e1
    · rw [if_neg h3] at h; exact absurd h h3
theorem getWhich_inv (W : List ByteArray) (hN : W.Nodup) : ∀ (k : Nat) (b : List Int), (∀ x ∈ b, isByte x = true) → (getWhich W k b).2.2 = 0 → b = (getWhich W k b).1.flatMap (which W) ++ (getWhich W k b).2.1 := by
  intro k
  induction k with
  | zero => intro b hb h; rfl
  | succ k ih =>
    intro b hb h
    have hr := vget_range b hb
    have hv := vput_vget b hb
    unfold getWhich at h ⊢
    obtain ⟨u, hu⟩ : ∃ u, u = vget b := ⟨_, rfl⟩
    rw [← hu] at hr hv h ⊢
    by_cases h1 : u.2.2 ≠ 0
    · rw [if_pos h1] at h; exact absurd h h1
    rw [if_neg h1] at h ⊢
    by_cases h2 : u.1 ≥ (W.length : Int)
    · rw [if_pos h2] at h; simp at h
    rw [if_neg h2] at h ⊢
    by_cases h3 : (getWhich W k (b.drop u.2.1.toNat)).2.2 = 0
    · rw [if_pos h3]
      have g1 := ih (b.drop u.2.1.toNat) (fun x hx => hb x (List.mem_of_mem_drop hx)) h3
      obtain ⟨r, e1, e2, e3, e4⟩ := hv (by simpa using h1)
      dsimp only
      obtain ⟨V, hV⟩ : ∃ V, V = vput 9 u.1 := ⟨_, rfl⟩
      rw [← hV] at e1 e2
      have ht1 : u.2.1.toNat = V.length := by omega
      have ed : b.drop V.length = r := by rw [e1, List.drop_left]
      have hlt : u.1.toNat < W.length := by omega
      have hg : W.getD u.1.toNat ⟨#[]⟩ = W[u.1.toNat] := by rw [List.getD_eq_getElem?_getD, List.getElem?_eq_getElem hlt]; rfl
      have hi : W.idxOf (W[u.1.toNat]) = u.1.toNat := hN.idxOf_getElem _ hlt
      rw [ht1, ed] at g1
      rw [ht1, ed, List.flatMap_cons, List.append_assoc, ← g1, hg]
      unfold which
      rw [hi, show ((u.1.toNat : Nat) : Int) = u.1 by omega, ← hV]
      exact e1
    · rw [if_neg h3] at h; exact absurd h h3
theorem refRead_f (b : List Int) (n : Nat) (hn : n ≤ 65536) (hl : b.length ≤ 400000) (hb : ∀ x ∈ b, isByte x = true) (k : Nat) (hk : 5 * n + 60 ≤ k) : tidelineref06_read.f k b (n : Int) = some ((getTexts b n).1.map mkT, (getTexts b n).2) := by
  have hr := vget_range b hb
  have hv := vput_vget b hb
  unfold tidelineref06_read.f getTexts
  rw [refGet_k b (by omega) hb k (by omega), Option.bind_some]
  have hz : IntKind.u64.wrap (n : Int) = (n : Int) := by rw [uwm_eq]; unfold uwm; omega
  rw [hz]
  obtain ⟨u, hu⟩ : ∃ u, u = vget b := ⟨_, rfl⟩
  rw [← hu] at hr hv ⊢
  by_cases h1 : u.2.2 = 0
  · rw [if_pos h1, if_neg (show ¬ (u.2.2 ≠ 0) from by simpa using h1)]
    by_cases h2 : u.1 > (n : Int)
    · rw [if_pos h2, if_pos h2]; rfl
    · obtain ⟨many, hm⟩ : ∃ m : Nat, u.1 = (m : Int) := ⟨u.1.toNat, by omega⟩
      obtain ⟨at_, hat⟩ : ∃ m : Nat, u.2.1 = (m : Int) := ⟨u.2.1.toNat, by omega⟩
      have h0 := refRead_l0 b hl hb n many (by omega) (by omega) many k 0 at_ [] (by omega) (by omega) rfl (by omega)
      rw [if_neg h2, if_neg h2, hm, hat]
      rw [show ((0 : Nat) : Int) = 0 from rfl] at h0
      rw [h0, Int.toNat_natCast, Int.toNat_natCast]
      simp only [List.nil_append]
      have hdb : ∀ x ∈ b.drop at_, isByte x = true := fun x hx => hb x (List.mem_of_mem_drop hx)
      have hinv := getWords_inv many (b.drop at_) hdb
      obtain ⟨G, hG⟩ : ∃ G, G = getWords many (b.drop at_) := ⟨_, rfl⟩
      rw [← hG] at hinv ⊢
      by_cases h3 : G.2.2 = 0
      · rw [if_neg (show ¬ (G.2.2 ≠ 0) from by simpa using h3), if_neg (show ¬ (G.2.2 ≠ 0) from by simpa using h3)]
        have hwl := getWhich_length G.1 n G.2.1
        have hinv2 : G.1.Nodup → (getWhich G.1 n G.2.1).2.2 = 0 → G.2.1 = (getWhich G.1 n G.2.1).1.flatMap (which G.1) ++ (getWhich G.1 n G.2.1).2.1 := fun hN => getWhich_inv G.1 hN n G.2.1 (fun x hx => hdb x (by rw [(hinv h3).1]; exact List.mem_append_right _ hx))
        have hmore : ∀ m : List ByteArray, m.length = n → encTexts m = b → G = (wordsOf [] m, m.flatMap (which (wordsOf [] m)), 0) := by
          intro m hml he
          have hwl := words_length m []
          simp only [List.length_nil, Nat.zero_add] at hwl
          have hvv := vget_vput ((wordsOf [] m).length : Int) ((wordsOf [] m).flatMap encT ++ m.flatMap (which (wordsOf [] m))) (by omega) (by omega)
          have hbe : b = vput 9 ((wordsOf [] m).length : Int) ++ ((wordsOf [] m).flatMap encT ++ m.flatMap (which (wordsOf [] m))) := by rw [← he]; unfold encTexts; rw [List.append_assoc]
          rw [← hbe, ← hu] at hvv
          have hm2 : many = (wordsOf [] m).length := by
            have : u.1 = ((wordsOf [] m).length : Int) := by rw [hvv]
            omega
          have ha2 : at_ = (vput 9 ((wordsOf [] m).length : Int)).length := by
            have : u.2.1 = ((vput 9 ((wordsOf [] m).length : Int)).length : Int) := by rw [hvv]
            omega
          have hsz : ∀ s ∈ m, s.size ≤ 1000000 := fun s hs => by
            have := texts_size m s hs
            rw [he] at this
            omega
          rw [hG, hm2, ha2]
          have hdr : b.drop (vput 9 ((wordsOf [] m).length : Int)).length = (wordsOf [] m).flatMap encT ++ m.flatMap (which (wordsOf [] m)) := by
            rw [hbe, List.drop_left]
          rw [hdr]
          exact getWords_enc _ (wordsOf [] m) (fun s hs => by
            rcases words_of m [] s hs with h | h
            · cases h
            · exact hsz s h)
        obtain ⟨H, hH⟩ : ∃ H, H = getWhich G.1 n G.2.1 := ⟨_, rfl⟩
        rw [← hH] at hwl hinv2 ⊢
        by_cases h4 : H.2.2 = 0
        · rw [if_neg (show ¬ (H.2.2 ≠ 0) from by simpa using h4), if_neg (show ¬ (H.2.2 ≠ 0) from by simpa using h4)]
          have hiff : (H.2.1 = [] ∧ wordsOf [] H.1 = G.1) ↔ encTexts H.1 = b := by
            constructor
            · rintro ⟨k1, k2⟩
              have hN : G.1.Nodup := by rw [← k2]; exact words_nodup _ _ (by simp)
              obtain ⟨g1, g2⟩ := hinv h3
              have g3 := hinv2 hN h4
              obtain ⟨r, e1, e2, e3, e4⟩ := hv h1
              have e5 : b.drop at_ = r := by
                rw [e1, show at_ = (vput 9 u.1).length by omega, List.drop_left]
              unfold encTexts
              rw [k2, g2, ← hm, List.append_assoc]
              rw [k1, List.append_nil] at g3
              rw [← g3, ← g1, e5]
              exact e1.symm
            · intro he
              have hg := hmore H.1 (hwl h4) he
              have hw0 := words_length H.1 []
              simp only [List.length_nil, Nat.zero_add] at hw0
              have := getWhich_enc (wordsOf [] H.1) (by have := hwl h4; omega) [] H.1 (fun s hs => words_mem H.1 [] s hs)
              rw [List.append_nil, hwl h4] at this
              have h5 : H = (H.1, [], 0) := by
                have h6 : getWhich G.1 n G.2.1 = (H.1, [], 0) := by rw [hg]; exact this
                rw [← hH] at h6
                exact h6
              exact ⟨by rw [h5], by rw [hg]⟩
          unfold finW
          by_cases h5 : encTexts H.1 = b
          · rw [if_pos (hiff.mpr h5), if_pos h5]
          · rw [if_neg (fun h => h5 (hiff.mp h)), if_neg h5]; rfl
        · rw [if_pos (show H.2.2 ≠ 0 from h4), if_pos (show H.2.2 ≠ 0 from h4)]; rfl
      · rw [if_pos (show G.2.2 ≠ 0 from h3), if_pos (show G.2.2 ≠ 0 from h3)]; rfl
  · rw [if_neg h1, if_pos (show u.2.2 ≠ 0 from h1)]; rfl
end Go.Proofs.Ytlmcefhpnfoahaa.P
end

section
namespace Go.Proofs.Ytlmcefhpnfoahaa.P
open Go.RowKit Go.Proofs.YtlmcefhpnfoahaaW.PrintWords Go.Proofs.YtlmcefhpnfoahaaW.PrintLast Go.Proofs.YtlmcefhpnfoahaaW.PrintMore
set_option linter.unusedVariables false
set_option linter.unusedSimpArgs false

theorem rdB_map (f : Nat → Bool) (n i : Nat) (h : i < n) : rdOf false ((List.range n).map f) (i : Int) = f i := by
  unfold rdOf
  rw [Int.toNat_natCast, List.getD_eq_getElem?_getD, List.getElem?_eq_getElem (by simpa using h)]
  simp
theorem refMarks_l0 (f : Nat → Bool) (n : Nat) (hn : n ≤ 70000) : ∀ (d k i : Nat) (X : List S39), i + d = n → d < k → X = (List.range i).map (fun j => (⟨1, if f j then 1 else 0, ⟨#[]⟩⟩ : S39)) →
    tidelineref06_marks.l0 k 1 (n : Int) X ((List.range n).map f) (i : Int) = some ((List.range n).map (fun j => (⟨1, if f j then 1 else 0, ⟨#[]⟩⟩ : S39)), 0) := by
  intro d
  induction d with
  | zero =>
    intro k i X hi hk hX
    obtain ⟨k, rfl⟩ : ∃ j, k = j + 1 := ⟨k - 1, by omega⟩
    obtain rfl : i = n := by omega
    rw [tidelineref06_marks.l0, if_neg (by omega), hX]
  | succ d ih =>
    intro k i X hi hk hX
    obtain ⟨k, rfl⟩ : ∃ j, k = j + 1 := ⟨k - 1, by omega⟩
    have hXl : X.length = i := by rw [hX]; simp
    rw [tidelineref06_marks.l0, if_pos (by omega), if_pos (by omega), if_pos (by simp; omega), rdB_map f n i (by omega), w64s i (by omega)]
    by_cases h : f i = true
    · rw [if_pos h, if_pos (by omega)]
      exact ih k (i + 1) _ (by omega) (by omega) (by rw [List.range_succ, List.map_append, hX]; simp [h])
    · rw [if_neg h, if_pos (by omega)]
      exact ih k (i + 1) _ (by omega) (by omega) (by rw [List.range_succ, List.map_append, hX]; simp [h])
theorem refMarks_l1 (V : List Int) (n : Nat) (hV : V.length = n) (hn : n ≤ 70000) : ∀ (d k i : Nat) (X : List S39), i + d = n → d < k → X.length = i →
    tidelineref06_marks.l1 k 2 (n : Int) X V (i : Int) = some (X ++ (V.drop i).map (fun v => (⟨2, v, ⟨#[]⟩⟩ : S39)), 0) := by
  intro d
  induction d with
  | zero =>
    intro k i X hi hk hX
    obtain ⟨k, rfl⟩ : ∃ j, k = j + 1 := ⟨k - 1, by omega⟩
    rw [tidelineref06_marks.l1, if_neg (by omega), List.drop_of_length_le (by omega), List.map_nil, List.append_nil]
  | succ d ih =>
    intro k i X hi hk hX
    obtain ⟨k, rfl⟩ : ∃ j, k = j + 1 := ⟨k - 1, by omega⟩
    have hlt : i < V.length := by omega
    rw [tidelineref06_marks.l1, if_pos (by omega), if_pos (by omega), if_pos (by omega), if_pos (by omega), w64s i (by omega), ih k (i + 1) _ (by omega) (by omega) (by simp; omega), List.drop_eq_getElem_cons hlt, ← rd_get hlt, List.map_cons, List.append_assoc]
    rfl
theorem refMarks_f (kind : Int) (hk3 : isKind kind) (b : List Int) (n : Nat) (hn : n ≤ 65536) (hl : b.length ≤ 400000) (hb : ∀ x ∈ b, isByte x = true) (k : Nat) (hk : 6 * n + 60 ≤ k) : tidelineref06_marks.f k kind b (n : Int) = some (getMarks kind b n) := by
  unfold tidelineref06_marks.f getMarks
  by_cases h1 : kind = 1
  · rw [if_pos h1, if_pos h1, refBits_f b hb n (by omega) k (by omega), Option.bind_some]
    unfold bitsR getTruths
    by_cases h2 : b.length < (n + 7) / 8
    · rw [if_pos h2, if_pos h2]; rfl
    rw [if_neg h2, if_neg h2]
    by_cases h3 : loose b n = true
    · rw [if_pos h3, if_pos h3]; rfl
    rw [if_neg h3, if_neg h3, if_pos rfl, List.length_drop]
    by_cases h4 : 0 < b.length - (n + 7) / 8
    · rw [if_neg (by dsimp only; omega), if_pos h4]
    · rw [if_pos (by dsimp only; omega), if_neg h4, h1]
      exact refMarks_l0 (bitAt b) n (by omega) n k 0 [] (by omega) (by omega) rfl
  · rw [if_neg h1, if_neg h1]
    by_cases h2 : kind = 2
    · have hlen := (enc_getInts b n hb)
      rw [if_pos h2, if_pos h2, refInts_f b n hn (by omega) hb k (by omega), Option.bind_some]
      have herr := getInts_err b n
      obtain ⟨p, hp⟩ : ∃ p, p = getInts b n := ⟨_, rfl⟩
      rw [← hp] at hlen herr ⊢
      by_cases h3 : p.2 = 0
      · have := refMarks_l1 p.1 n (hlen h3).2.1 (by omega) n k 0 [] (by omega) (by omega) rfl
        rw [if_pos h3, h2, h3]
        rw [List.drop_zero, List.nil_append] at this
        exact this
      · rw [if_neg h3, herr h3]; rfl
    · rw [if_neg h2, if_neg h2, refRead_f b n hn hl hb k (by omega), Option.bind_some]
      rfl
theorem refGet_l1c (b : List Int) (n : Nat) (hn : n ≤ 70000) : ∀ (d k i : Nat) (m X : List S39), i + d = n → d < k → X.length = i → cntF (fun j => bitAt b (i + j)) d ≤ m.length →
    tidelineref06_Get.l1 k (n : Int) ((List.range n).map (bitAt b)) m X (i : Int) = some (X ++ merge (bitAt b) i d m, 0) := by
  intro d
  induction d with
  | zero =>
    intro k i m X hi hk hX hm
    obtain ⟨k, rfl⟩ : ∃ j, k = j + 1 := ⟨k - 1, by omega⟩
    rw [tidelineref06_Get.l1, if_neg (by omega), merge, List.append_nil]
  | succ d ih =>
    intro k i m X hi hk hX hm
    obtain ⟨k, rfl⟩ : ∃ j, k = j + 1 := ⟨k - 1, by omega⟩
    have hsh := cntF_shift (fun j => bitAt b (i + j)) d
    have hfun : (fun j => bitAt b (i + (j + 1))) = (fun j => bitAt b (i + 1 + j)) := by funext j; congr 1; omega
    simp only [Nat.add_zero] at hsh
    rw [hfun] at hsh
    rw [hsh] at hm
    rw [tidelineref06_Get.l1, if_pos (by omega), if_pos (by omega), if_pos (by simp; omega), rdB_map (bitAt b) n i (by omega), w64s i (by omega), merge]
    by_cases h : bitAt b i = true
    · rw [if_pos h] at hm
      rw [if_pos h, if_pos h, if_pos (by omega), ih k (i + 1) m _ (by omega) (by omega) (by simp; omega) (by omega), List.append_assoc]
      rfl
    · rw [if_neg h] at hm
      cases m with
      | nil => simp only [List.length_nil] at hm; omega
      | cons x m =>
        have hx0 : rd_T39 (x :: m) 0 = x := rfl
        rw [if_neg h, if_neg h, if_pos (by simp only [List.length_cons]; omega), if_pos (by omega), if_pos (by simp only [List.length_cons]; omega), hx0]
        have := ih k (i + 1) m (X ++ [x]) (by omega) (by omega) (by simp; omega) (by simp only [List.length_cons] at hm; omega)
        rw [List.append_assoc] at this
        exact this
theorem refGet_l0c (kind : Int) (hk3 : isKind kind) (b : List Int) (n : Nat) (hn : n ≤ 65536) (hl : b.length ≤ 400000) (hb : ∀ x ∈ b, isByte x = true) (hw : (n + 7) / 8 ≤ b.length) : ∀ (d k i : Nat), i + d = n → d + 6 * n + 100 ≤ k →
    tidelineref06_Get.l0 k kind b (n : Int) ((List.range n).map (bitAt b)) (((n + 7) / 8 : Nat) : Int) ((cntF (bitAt b) i : Nat) : Int) (i : Int) = some (if (getMarks kind (b.drop ((n + 7) / 8)) (cntF (bitAt b) n)).2 ≠ 0 then ([], (getMarks kind (b.drop ((n + 7) / 8)) (cntF (bitAt b) n)).2) else (merge (bitAt b) 0 n (getMarks kind (b.drop ((n + 7) / 8)) (cntF (bitAt b) n)).1, 0)) := by
  intro d
  induction d with
  | zero =>
    intro k i hi hk
    obtain ⟨k, rfl⟩ : ∃ j, k = j + 1 := ⟨k - 1, by omega⟩
    obtain rfl : i = n := by omega
    have hcl := cnt_le (bitAt b) i
    have hdb : ∀ x ∈ b.drop ((i + 7) / 8), isByte x = true := fun x hx => hb x (List.mem_of_mem_drop hx)
    rw [tidelineref06_Get.l0, if_neg (by omega), if_pos (by omega), if_pos (by omega), Int.toNat_natCast, refMarks_f kind hk3 _ _ (by omega) (by rw [List.length_drop]; omega) hdb k (by omega), Option.bind_some]
    have hml := marks_len_eq kind (b.drop ((i + 7) / 8)) (cntF (bitAt b) i) hdb
    obtain ⟨p, hp⟩ : ∃ p, p = getMarks kind (b.drop ((i + 7) / 8)) (cntF (bitAt b) i) := ⟨_, rfl⟩
    rw [← hp] at hml ⊢
    by_cases h : p.2 = 0
    · have := refGet_l1c b i (by omega) i k 0 p.1 [] (by omega) (by omega) rfl (by
        rw [hml h]
        have hfun : (fun j => bitAt b (0 + j)) = bitAt b := by funext j; rw [Nat.zero_add]
        rw [hfun]
        exact Nat.le_refl _)
      rw [if_pos h, if_neg (by simpa using h)]
      rw [List.nil_append] at this
      exact this
    · rw [if_neg h, if_pos (show p.2 ≠ 0 from h)]
  | succ d ih =>
    intro k i hi hk
    obtain ⟨k, rfl⟩ : ∃ j, k = j + 1 := ⟨k - 1, by omega⟩
    have hcl := cnt_le (bitAt b) i
    have hs := cnt_succ (bitAt b) i
    have hih := ih k (i + 1) (by omega) (by omega)
    rw [hs] at hih
    rw [tidelineref06_Get.l0, if_pos (by omega), if_pos (by omega), if_pos (by simp; omega), rdB_map (bitAt b) n i (by omega), w64s i (by omega)]
    by_cases h : bitAt b i = true
    · rw [if_pos h] at hih
      rw [if_pos h]
      exact hih
    · rw [if_neg h] at hih
      rw [if_neg h, w64s _ (by omega)]
      exact hih
theorem refGetCol_f (kind : Int) (b : List Int) (n : Int) (hl : b.length ≤ 400000) (hb : ∀ x ∈ b, isByte x = true) (k : Nat) (hk : 600000 ≤ k) : tidelineref06_Get.f k kind b n = some (getColI kind b n) := by
  obtain ⟨k, rfl⟩ : ∃ j, k = j + 1 := ⟨k - 1, by omega⟩
  have hkb := kindB_iff kind
  unfold isKind at hkb
  unfold tidelineref06_Get.f getColI
  by_cases h1 : kind < 1
  · rw [if_pos h1, tidelineref06_Get.j0, if_pos rfl, if_neg (fun h => by have := hkb.mp h.1; omega)]
  rw [if_neg h1]
  by_cases h2 : kind > 3
  · rw [if_pos h2, tidelineref06_Get.j0, if_pos rfl, if_neg (fun h => by have := hkb.mp h.1; omega)]
  rw [if_neg h2]
  by_cases h3 : n < 0
  · rw [if_pos h3, tidelineref06_Get.j0, if_pos rfl, if_neg (fun h => by omega)]
  rw [if_neg h3]
  by_cases h4 : n > 65536
  · rw [decide_eq_true h4, tidelineref06_Get.j0, if_pos rfl, if_neg (fun h => by omega)]
  have hkk : kindB kind = true := hkb.mpr (by omega)
  obtain ⟨m, rfl⟩ : ∃ m : Nat, n = (m : Int) := ⟨n.toNat, by omega⟩
  rw [decide_eq_false h4, tidelineref06_Get.j0, if_neg (by decide), if_pos ⟨hkk, by omega, by omega⟩, Int.toNat_natCast, refBits_f b hb m (by omega) k (by omega), Option.bind_some]
  unfold bitsR getCol
  by_cases h5 : b.length < (m + 7) / 8
  · rw [if_pos h5, if_pos h5]; rfl
  rw [if_neg h5, if_neg h5]
  by_cases h6 : loose b m = true
  · rw [if_pos h6, if_pos h6]; rfl
  rw [if_neg h6, if_neg h6, if_pos rfl]
  exact refGet_l0c kind ((kindB_iff kind).mp hkk) b m (by omega) hl hb (by omega) m k 0 (by omega) (by omega)
theorem getCol_len (kind : Int) (b : List Int) (n : Nat) : (getCol kind b n).1.length ≤ n := by
  unfold getCol
  (repeat' split) <;> first | exact Nat.zero_le _ | (rw [merge_len]; exact Nat.le_refl _)
theorem colGets_f (kind n : Int) (b : List Int) (hby : ∀ x ∈ b, isByte x = true) : tidelinelaw06_ColumnGets.f 600001 kind b n = some true := by
  have hj : ∀ q : Bool, (q = false → b.length ≤ 1000) → tidelinelaw06_ColumnGets.j0 600001 kind b n q = some true := by
    intro q hq
    cases q with
    | true => rw [tidelinelaw06_ColumnGets.j0, if_pos rfl]
    | false =>
      have h1 := hq rfl
      have hlen : (getColI kind b n).1.length ≤ 65536 := by
        unfold getColI
        split
        · rename_i h
          have := getCol_len kind b n.toNat
          omega
        · exact Nat.zero_le _
      rw [tidelinelaw06_ColumnGets.j0, if_neg (by decide), Option.bind_some, if_pos (by simp; omega), Option.bind_some, List.nil_append, colGet_f kind b n (by omega) hby, Option.bind_some, refGetCol_f kind b n (by omega) hby 600000 (Nat.le_refl _), Option.bind_some,
        same_self_k _ (by unfold maxLen; omega) _ (by omega), Option.bind_some, if_pos rfl, if_pos rfl, if_pos rfl]
      rfl
  unfold tidelinelaw06_ColumnGets.f
  by_cases h1 : (b.length : Int) > 1000
  · rw [if_pos h1]; exact hj true (fun h => by cases h)
  · rw [if_neg h1]
    by_cases h2 : n > 2000
    · rw [if_pos h2]; exact hj _ (fun _ => by omega)
    · rw [if_neg h2]; exact hj false (fun _ => by omega)
theorem walk_ColumnGets (a0 : Int) (A1 : Option Addr) (c1 : Nat) (l1 : List Int) (a2 : Int) (w : World) (hw0 : (Lit.int .u8 a0).wf = true)
    (hr1 : Kd.C (Kd.int .u8) w A1 l1.length l1) (hc1 : l1.length ≤ c1) (hm1 : l1.length ≤ maxLen) (hw1 : ∀ x ∈ l1, (Lit.int .u8 x).wf = true) (hw2 : (Lit.int .i64 a2).wf = true) :
    Calls Try.prog 18 #[.int .u8 a0, .slice A1 l1.length c1, .int .i64 a2] w fun e w' => e = .returned (.bool true) ∧ Below w.heap.size w w' :=
  tidelinelaw06_ColumnGets.calls _ a0 A1 c1 l1 a2 true w hr1 hc1 (colGets_f a0 a2 l1 (byte_all hw1))
end Go.Proofs.Ytlmcefhpnfoahaa.P
end

section
/- The row of the law ColumnGets: at every input it answers true, and each argument reads behind the call as it did. No condition. -/
namespace Go.Proofs.Ytlmcefhpnfoahaa.columnGets
open Go.ChangeShapes Go.WideShapes Go.ChangeAt Go.RowKit Go.Proofs.Ytlmcefhpnfoahaa.P
open Go.ChangeMaps (open_string shut_string)
set_option linter.unusedVariables false
theorem own : ownKnob Try.prog.godebug = none := by kernel_rfl
theorem laidOut : laidOutB Try.prog = true := by kernel_rfl
set_option maxRecDepth 100000 in
theorem lifted (os : Os) (started : os.Started) (H : Type) (enc : TypeId × Value → H) :
    ReturnsInHanded {} Try.checked os 18 .any (Rows.columnGetsSpec.pre6 enc Try.prog Try.f18 Rows.columnGetsRow.domain false) (Rows.columnGetsSpec.post enc Try.prog Try.f18 false true false false) := by
  refine returnsInHanded_of_change_sized (C := Try.checked) own started (by kernel_rfl) Try.func18
    (ChangeSpec.witness6 (enc := enc) (C := Try.checked) false ⟨#[], #[.int .u8 0, .slice none 0 0, .int .i64 0], []⟩ 8 (by kernel_rfl) (by kernel_rfl) (by kernel_rfl) (by kernel_rfl)) ?_
  intro W base args ds gs before hval0 hW hcnd hsz0 _
  have hval : ∀ (j : Nat) t v, Try.f18.params[j]? = some t → args[j]? = some v → Value.okWide Try.prog W .any base t v := hval0
  have hW' := hW
  obtain ⟨p, q, hA0, hV, rfl, hfz, hnd⟩ := hW
  have hA : DataW.TrodAll enc Try.prog W 0 (fun _ => true) true Try.f18.params.toList args.toList ds p := hA0
  rw [Try.params18] at hA hval
  obtain ⟨v0, vs0, d0, ds0, p0, q0, hargs, rfl, rfl, h0, r0⟩ := trodAll_cons hA
  obtain ⟨v1, vs1, d1, ds1, p1, q1, rfl, rfl, rfl, h1, r1⟩ := trodAll_cons r0
  obtain ⟨v2, vs2, d2, ds2, p2, q2, rfl, rfl, rfl, h2, r2⟩ := trodAll_cons r1
  obtain ⟨rfl, rfl, rfl⟩ := trodAll_nil r2
  obtain rfl : args = #[v0, v1, v2] := by cases args; simp_all
  obtain ⟨rfl, rfl⟩ := trodVars_none hV
  obtain ⟨a0, rfl, rfl, rfl, w0⟩ := open_int Try.underlying5 (hval 0 5 v0 rfl rfl) h0
  obtain ⟨a1, len1, cap1, rfl⟩ := okWide_slice Try.underlying22 (hval 1 22 v1 rfl rfl)
  have k1 := h1
  have lt1 : ∀ x ∈ p1, x.block < W.heap.size := by obtain ⟨m, hm⟩ := k1; exact DataW.trod_lt m _ _ _ hm
  obtain ⟨l1, rfl, y1, z1, m1, w1⟩ := open_arg (0 : Int) Try.underlying22 (by kernel_rfl) (tells_int Try.underlying5) h1
  obtain ⟨a2, rfl, rfl, rfl, w2⟩ := open_int Try.underlying3 (hval 2 3 v2 rfl rfl) h2
  clear hA0 hval0 hsz0
  refine (walk_ColumnGets a0 a1 cap1 l1 a2 W w0 z1 y1 m1 w1 w2).mono fun e W' ⟨he, bel⟩ => ?_
  subst he
  exact ⟨_, rfl, _, _, _, [], _, [], hW', trodAll_mk1 (shut_bool Try.underlying4 _), (trodAll_cons_mk (shut_int Try.underlying5 w0) (trodAll_cons_mk (Below.trod laidOut (by kernel_rfl) (of_decide_eq_true (by kernel_rfl)) k1 bel lt1) (trodAll_cons_mk (shut_int Try.underlying3 w2) trodAll_mk0))), rfl, bel.frame _, fun h => by cases h⟩
theorem k_wf : Rows.columnGetsRow.wf (OpenSpec.ofChange Rows.columnGetsSpec) = true := by kernel_rfl
theorem k_params : Try.f18.params.all (Try.prog.readableRec ·) = true := by kernel_rfl
theorem k_tie : namedTie Try.prog Rows.columnGetsRow.named Rows.columnGetsSpec.vars = true := by kernel_rfl
theorem k_inPlace : (Rows.columnGetsRow.inPlace == Try.prog.inPlace 18) = true := by kernel_rfl
theorem k_unfollowed : (Rows.columnGetsRow.unfollowed == Try.prog.unfollowed 18) = true := by kernel_rfl
theorem k_recurses : (Rows.columnGetsRow.recurses == Try.prog.recurses 18) = true := by kernel_rfl
theorem k_named : (Rows.columnGetsRow.named == Try.prog.varsNamed 18) = true := by kernel_rfl
theorem k_maps : (Rows.columnGetsRow.maps == (Try.f18.params.toList ++ Rows.columnGetsSpec.plain.varTypes Try.prog).any (Try.prog.mapsRec ·)) = true := by kernel_rfl
theorem k_ifaces : (Rows.columnGetsRow.ifaces == (Try.f18.params.toList ++ Rows.columnGetsSpec.plain.varTypes Try.prog).any (Try.prog.ifacesRec ·)) = true := by kernel_rfl
theorem k_mapsOut : (Rows.columnGetsRow.mapsOut == Try.prog.mapsAmong Try.f18.resultTypes.toList) = true := by kernel_rfl
theorem k_loops : (Rows.columnGetsRow.loops == (Try.f18.params.toList ++ Rows.columnGetsSpec.plain.varTypes Try.prog).any (Try.prog.loopsFrom ·)) = true := by kernel_rfl
theorem k_wideKeys : (Rows.columnGetsRow.wideKeys == ((Try.f18.params.toList ++ Rows.columnGetsSpec.plain.varTypes Try.prog) ++ Try.f18.resultTypes.toList).any (Try.prog.wideKeysFrom ·)) = true := by kernel_rfl
theorem k_results : Try.f18.resultTypes.all (fun t => Try.prog.readableRec t && decide (t < Try.prog.types.size)) = true := by kernel_rfl
theorem k_ifacesOut : (Rows.columnGetsRow.ifacesOut == Try.f18.resultTypes.toList.any (Try.prog.ifacesRec ·)) = true := by kernel_rfl
theorem k_loopsOut : (Rows.columnGetsRow.loopsOut == Try.f18.resultTypes.toList.any (Try.prog.loopsFrom ·)) = true := by kernel_rfl
theorem k_veiled : (Rows.columnGetsRow.veiled == ((Try.f18.params.toList ++ Rows.columnGetsSpec.plain.varTypes Try.prog) ++ Try.f18.resultTypes.toList).any (Try.prog.veiledRec ·)) = true := by kernel_rfl
theorem k_fits : Rows.columnGetsRow.veiledFits Try.prog Try.f18.params.toList ((Try.f18.params.toList ++ Rows.columnGetsSpec.plain.varTypes Try.prog) ++ Try.f18.resultTypes.toList) = true := by kernel_rfl
theorem k_kinds : (Rows.columnGetsRow.kinds == (if Rows.columnGetsRow.domain.isEmpty then [] else Try.f18.params.toList.map fun t => match Try.prog.underlying t with | some (.int k) => some k | _ => none)) = true := by kernel_rfl
theorem k_pins : (Rows.columnGetsRow.pinned == Rows.columnGetsRow.pinnedBy) = true := by kernel_rfl
theorem k_stops : (Rows.columnGetsRow.stops == []) = true := by kernel_rfl
theorem k_knobs : (Rows.columnGetsRow.knobs == []) = true := by kernel_rfl
theorem k_vars : Rows.columnGetsSpec.vars.all (Try.prog.varReadable ·) = true := by kernel_rfl
theorem k_plain : Rows.columnGetsRow.plainKeys = true := by kernel_rfl
theorem k_short : Rows.columnGetsRow.shortTexts.isNone = true := by kernel_rfl
theorem k_lift : Rows.columnGetsRow.lifted = false := by kernel_rfl
theorem k_make : Rows.columnGetsRow.make = .cut := by kernel_rfl
theorem k_func : Try.prog.funcNamed Rows.columnGetsRow.func = some 18 := by kernel_rfl
theorem k_plain2 : (Rows.columnGetsRow.plainKeys == Try.prog.plainKeys) = (Rows.columnGetsRow.plainKeys == true) := by rw [fact_plainKeys]
theorem k_lift2 : (Rows.columnGetsRow.lifted == Try.prog.liftsFinal) = (Rows.columnGetsRow.lifted == false) := by rw [fact_liftsFinal]
theorem k_make2 : (Try.prog.make == some Rows.columnGetsRow.make) = true := by rw [fact_make, k_make]; rfl
set_option maxRecDepth 100000 in
theorem closed : joinedFacts Try.prog 18 Try.f18 Rows.columnGetsSpec Rows.columnGetsRow = true :=
  joined_of Try.prog 18 Try.f18 Rows.columnGetsSpec Rows.columnGetsRow k_wf fact_laidOut fact_mapsRowed k_params k_tie k_stops fact_stops k_knobs fact_stopKnobs k_inPlace k_unfollowed k_recurses k_named k_maps k_ifaces k_mapsOut k_loops k_wideKeys k_vars k_results k_ifacesOut k_loopsOut k_plain2 k_plain k_short fact_stopsHeard fact_mayEnter k_lift2 k_lift k_make2 k_kinds k_pins k_veiled k_fits
theorem over : Rows.columnGetsRow.holds Try.pinned (OpenSpec.ofChange Rows.columnGetsSpec) :=
  OpenClaim.holds_of_wide 18 Try.f18 rfl rfl rfl rfl rfl rfl rfl ⟨rfl, rfl, rfl, rfl, rfl⟩ rfl rfl rfl rfl rfl k_func Try.func18 closed
    (of_decide_eq_true (by kernel_rfl)) (by unfold Func.isWrapper; first | (rw [if_pos (by decide +kernel)]; kernel_rfl) | (rw [if_neg (by decide +kernel)]; exact ⟨rfl, rfl⟩))
    (fun os started H enc _ => lifted os started H enc)
theorem proved : Rows.ColumnGetsSaid := over
#print axioms proved
end Go.Proofs.Ytlmcefhpnfoahaa.columnGets
namespace Go.Proofs.Ytlmcefhpnfoahaa
/-- The row, under a short name, for the claim. -/
theorem columnGets_holds : Rows.ColumnGetsSaid := columnGets.proved
end Go.Proofs.Ytlmcefhpnfoahaa
end
