/- Part 0 of the proof of the law ColumnGets: texts of this session, gathered. Condition: none beside those that each theorem states. -/
import Derived.Test.YtlmcefhpnfoahaaBCOL2
section
namespace Go.Proofs.Ytlmcefhpnfoahaa.P
open Go.RowKit Go.Proofs.YtlmcefhpnfoahaaW.PrintWords Go.Proofs.YtlmcefhpnfoahaaW.PrintLast Go.Proofs.YtlmcefhpnfoahaaW.PrintMore
attribute [local go_sem] max2_int min2_int max_two min_two max_three min_three max_four min_four   -- for this text's walks alone
set_option linter.unusedVariables false
set_option linter.unusedSimpArgs false

mutual
def tidelineref06_bits.l0 : Nat → List Int → Int → Int → List Bool → Int → Option (List Bool × Int × Int)
  | 0, _, _, _, _, _ => none
  | k + 1, x0, x1, x7, x8, x9 => if x9 < (wrap64 (8 * x7)) then (if 0 ≤ (wrap64 (Int.tdiv x9 8)) then (if (wrap64 (Int.tdiv x9 8)) < (x0.length : Int) then (if 0 ≤ (Int.tmod x9 8) then (if x9 ≥ x1 then (tidelineref06_bits.j1 k x0 x1 x7 x8 x9 ((Int.tmod (shr .u8 (rd x0 (wrap64 (Int.tdiv x9 8))) (Int.tmod x9 8)) 2) == 1) ((Int.tmod (shr .u8 (rd x0 (wrap64 (Int.tdiv x9 8))) (Int.tmod x9 8)) 2) == 1)) else (tidelineref06_bits.j1 k x0 x1 x7 x8 x9 ((Int.tmod (shr .u8 (rd x0 (wrap64 (Int.tdiv x9 8))) (Int.tmod x9 8)) 2) == 1) false)) else (none)) else (none)) else (none)) else (some (x8, x7, 0))
def tidelineref06_bits.j1 : Nat → List Int → Int → Int → List Bool → Int → Bool → Bool → Option (List Bool × Int × Int)
  | 0, _, _, _, _, _, _, _ => none
  | k + 1, x0, x1, x7, x8, x9, x10, x39 => if x39 = true then (some (([] : List Bool), 0, 21)) else (if x9 < x1 then (if x8.length < 140737488355328 then (tidelineref06_bits.l0 k x0 x1 x7 (x8 ++ [x10]) (wrap64 (x9 + 1))) else (none)) else (tidelineref06_bits.l0 k x0 x1 x7 x8 (wrap64 (x9 + 1))))
end
def tidelineref06_bits.f (k : Nat) (l0 : List Int) (a1 : Int) : Option (List Bool × Int × Int) := if (l0.length : Int) < (wrap64 (Int.tdiv (wrap64 (a1 + 7)) 8)) then (some (([] : List Bool), 0, 20)) else (tidelineref06_bits.l0 k l0 a1 (wrap64 (Int.tdiv (wrap64 (a1 + 7)) 8)) ([] : List Bool) 0)
set_option maxHeartbeats 8000000 in
set_option maxRecDepth 100000 in
theorem tidelineref06_bits.calls (k : Nat) (A0 : Option Addr) (c0 : Nat) (l0 : List Int) (a1 : Int) (r1 : List Bool) (r2 : Int) (r3 : Int) (w : World) (hr0 : Kd.C (Kd.int .u8) w A0 l0.length l0) (hc0 : l0.length ≤ c0) (h : tidelineref06_bits.f k l0 a1 = some (r1, r2, r3)) :
    Calls Try.prog 102 #[.slice A0 l0.length c0, .int .i64 a1] w fun e w' => ∃ v0_ : Value, e = .returned (.tuple #[v0_, .int .i64 r2, .int .i64 r3]) ∧ Kd.R Kd.bool 4 w' w.heap.size (fun _ => True) v0_ r1 ∧ Below w.heap.size w w' := by
  have HR0 := Aside0.mk hr0
  have HC0 := Aside0.mk hc0
  clear hr0 hc0
  have HB := Aside0.mk (Below.refl w.heap.size w)
  have H : (if (l0.length : Int) < (wrap64 (Int.tdiv (wrap64 (a1 + 7)) 8)) then (some (([] : List Bool), 0, 20)) else (tidelineref06_bits.l0 k l0 a1 (wrap64 (Int.tdiv (wrap64 (a1 + 7)) 8)) ([] : List Bool) 0)) = some (r1, r2, r3) := h
  clear h
  by_cases c3 : (l0.length : Int) < (wrap64 (Int.tdiv (wrap64 (a1 + 7)) 8))
  · rw [if_pos c3] at H
    have c3b0 : decide ((l0.length : Int) < (wrap64 (Int.tdiv (wrap64 (a1 + 7)) 8))) = true := decide_eq_true c3
    clear c3
    simp only [Option.some.injEq, Prod.mk.injEq] at H
    obtain ⟨rfl, rfl, rfl⟩ := H
    go_enter Try.func102, Try.ntmps102
    go_wp2
    go_ret3
    exact ⟨_, by first | rfl | (simp [errW_none, errW_some] <;> rfl) | (simp [*, errW_none, errW_some] <;> rfl), by first | exact Kd.R_nil _ _ _ _ _ | exact Kd.N_nil _ _ _ _ _ | exact Kd.V_nil _ _ _ _ _ | exact Kd.Q_nil _ _ _ _ _ | exact Kd.S_nil _ _ _ _ _, by repeat (first | (with_reducible first | exact HB.out | apply below_alloc | apply pw_below_drewN | apply below_drew1) | exact HB.out)⟩
  · rw [if_neg c3] at H
    have c3b0 : decide ((l0.length : Int) < (wrap64 (Int.tdiv (wrap64 (a1 + 7)) 8))) = false := decide_eq_false c3
    clear c3
    have H' := Aside0.mk H
    clear H
    go_enter Try.func102, Try.ntmps102
    go_wp2
    go_loopg [8, 9] k (fun kq v8 v9 w' => ∃ (x8_1 : List Bool) (x9_1 : Int), v9 = .int .i64 x9_1 ∧ Aside0 (tidelineref06_bits.l0 kq l0 a1 (wrap64 (Int.tdiv (wrap64 (a1 + 7)) 8)) x8_1 x9_1 = some (r1, r2, r3)) ∧ Aside0 (kq ≤ k) ∧ Aside0 (Kd.R Kd.bool 4 w' w.heap.size (fun _ => True) v8 x8_1) ∧ Aside0 (Below w.heap.size w w'))
    case atStart => exact ⟨(([] : List Bool)), (0), (by first | rfl | (simp; done) | (simp [*]; done)), H', ⟨Nat.le_refl _⟩, ⟨by first | exact Kd.R_nil _ _ _ _ _ | exact Kd.N_nil _ _ _ _ _ | exact Kd.V_nil _ _ _ _ _ | exact Kd.Q_nil _ _ _ _ _ | exact Kd.S_nil _ _ _ _ _⟩, ⟨by repeat (first | (with_reducible first | exact HB.out | apply below_alloc | apply pw_below_drewN | apply below_drew1) | exact HB.out)⟩⟩
    case round =>
      clear H'
      try clear c1
      try clear p2
      try clear c3
      try clear c3b0
      obtain ⟨x8_1, x9_1, rfl, HA, HK1, HO_8, HB⟩ := hrel
      cases gk with
      | zero => exact absurd HA.out (by simp [tidelineref06_bits.l0])
      | succ k1 =>
        have H := HA.out
        clear HA
        simp only [tidelineref06_bits.l0] at H
        by_cases c4 : x9_1 < (wrap64 (8 * (wrap64 (Int.tdiv (wrap64 (a1 + 7)) 8))))
        · rw [if_pos c4] at H
          have c4b0 : decide (x9_1 < (wrap64 (8 * (wrap64 (Int.tdiv (wrap64 (a1 + 7)) 8))))) = true := decide_eq_true c4
          clear c4
          obtain ⟨ji5, hji5⟩ : ∃ j_ : Int, (wrap64 (Int.tdiv x9_1 8)) = j_ := ⟨_, rfl⟩
          replace H : (if 0 ≤ (ji5) then (if (ji5) < (l0.length : Int) then (if 0 ≤ (Int.tmod x9_1 8) then (if x9_1 ≥ a1 then (tidelineref06_bits.j1 k1 l0 a1 (wrap64 (Int.tdiv (wrap64 (a1 + 7)) 8)) x8_1 x9_1 ((Int.tmod (shr .u8 (rd l0 (ji5)) (Int.tmod x9_1 8)) 2) == 1) ((Int.tmod (shr .u8 (rd l0 (ji5)) (Int.tmod x9_1 8)) 2) == 1)) else (tidelineref06_bits.j1 k1 l0 a1 (wrap64 (Int.tdiv (wrap64 (a1 + 7)) 8)) x8_1 x9_1 ((Int.tmod (shr .u8 (rd l0 (ji5)) (Int.tmod x9_1 8)) 2) == 1) false)) else (none)) else (none)) else (none)) = some (r1, r2, r3) := by first | (rw [hji5] at H; exact H) | (simp only [hji5] at H ⊢; exact H)
          have hji5w : (IntKind.i64.wrap (Int.tdiv x9_1 8)) = ji5 := (i64_w _).trans hji5
          by_cases c6 : 0 ≤ (ji5)
          · rw [if_pos c6] at H
            have c6b0 : decide (0 ≤ (ji5)) = true := decide_eq_true c6
            clear c6
            by_cases c7 : (ji5) < (l0.length : Int)
            · rw [if_pos c7] at H
              have c7b0 : decide ((ji5) < (l0.length : Int)) = true := decide_eq_true c7
              clear c7
              obtain ⟨ji8, hji8⟩ : ∃ j_ : Int, (Int.tmod x9_1 8) = j_ := ⟨_, rfl⟩
              replace H : (if 0 ≤ (ji8) then (if x9_1 ≥ a1 then (tidelineref06_bits.j1 k1 l0 a1 (wrap64 (Int.tdiv (wrap64 (a1 + 7)) 8)) x8_1 x9_1 ((Int.tmod (shr .u8 (rd l0 (ji5)) (ji8)) 2) == 1) ((Int.tmod (shr .u8 (rd l0 (ji5)) (ji8)) 2) == 1)) else (tidelineref06_bits.j1 k1 l0 a1 (wrap64 (Int.tdiv (wrap64 (a1 + 7)) 8)) x8_1 x9_1 ((Int.tmod (shr .u8 (rd l0 (ji5)) (ji8)) 2) == 1) false)) else (none)) = some (r1, r2, r3) := by first | (rw [hji8] at H; exact H) | (simp only [hji8] at H ⊢; exact H)
              by_cases c9 : 0 ≤ (ji8)
              · rw [if_pos c9] at H
                have c9b0 := eq_true c9
                have c9b1 : decide (0 ≤ (ji8)) = true := decide_eq_true c9
                clear c9
                obtain ⟨ji10, hji10⟩ : ∃ j_ : Int, (shr .u8 (rd l0 (ji5)) (ji8)) = j_ := ⟨_, rfl⟩
                replace H : (if x9_1 ≥ a1 then (tidelineref06_bits.j1 k1 l0 a1 (wrap64 (Int.tdiv (wrap64 (a1 + 7)) 8)) x8_1 x9_1 ((Int.tmod (ji10) 2) == 1) ((Int.tmod (ji10) 2) == 1)) else (tidelineref06_bits.j1 k1 l0 a1 (wrap64 (Int.tdiv (wrap64 (a1 + 7)) 8)) x8_1 x9_1 ((Int.tmod (ji10) 2) == 1) false)) = some (r1, r2, r3) := by first | (rw [hji10] at H; exact H) | (simp only [hji10] at H ⊢; exact H)
                have hji10_ : ((rd l0 (ji5)) / 2 ^ min (ji8).toNat 8) = ji10 := hji10
                have hji10z : (ji8) ≤ 8 → ((rd l0 (ji5)) / 2 ^ (ji8).toNat) = ji10 := shr_small hji10
                have HC11 := Aside0.mk H
                clear H
                have p1004 : 0 ≤ ((ji5) : Int) := of_decide_eq_true (by first | (with_reducible assumption) | assumption)
                have q1004 : (ji5) < (l0.length : Int) := of_decide_eq_true (by first | (with_reducible assumption) | assumption)
                obtain ⟨ad1004, e1004, hx1004_0⟩ := Kd.at_int HR0.out (ji5) p1004 q1004
                cases e1004
                replace hx1004_0 := (HB.out.cell (World.block_lt_of_cell? w _ hx1004_0)).trans hx1004_0
                replace p1004 := eq_true p1004
                replace q1004 := eq_true q1004
                go_upto_region 9 with (fail)
                go_cut [39] (fun v39 wc => ∃ (kq : Nat) (x39_10 : Bool), v39 = .bool x39_10 ∧ Aside0 (tidelineref06_bits.j1 kq l0 a1 (wrap64 (Int.tdiv (wrap64 (a1 + 7)) 8)) x8_1 x9_1 ((Int.tmod (ji10) 2) == 1) x39_10 = some (r1, r2, r3)) ∧ Aside0 (kq ≤ k1) ∧ Aside0 (Kd.R Kd.bool 4 wc w.heap.size (fun _ => True) u8 x8_1) ∧ Aside0 (Below w.heap.size w wc))
                case first =>
                  have H := HC11.out
                  clear HC11
                  by_cases c12 : x9_1 ≥ a1
                  · rw [if_pos c12] at H
                    have c12b0 : decide (a1 ≤ x9_1) = true := decide_eq_true c12
                    clear c12
                    (first | rw [c12b0] | (simp only [i64_w, i32_w]; rw [c12b0]) | skip)
                    have H' := Aside0.mk H
                    clear H
                    go_wp2
                    go_meet
                    case rel => exact ⟨_, (((Int.tmod (ji10) 2) == 1)), (by first | rfl | (simp; done) | (simp only [← hji10] <;> (first | rfl | simp)) | (simp [*]; done)), H', ⟨by have := HK1.out; first | omega | exact Nat.le_refl _⟩, ⟨by (with_reducible repeat (first | apply Kd.R_alloc | apply Kd.R_drewN | apply Kd.R_drew)); exact HO_8.out⟩, ⟨by repeat (first | (with_reducible first | exact HB.out | apply below_alloc | apply pw_below_drewN | apply below_drew1) | exact HB.out)⟩⟩
                  · rw [if_neg c12] at H
                    have c12b0 : decide (a1 ≤ x9_1) = false := decide_eq_false c12
                    clear c12
                    (first | rw [c12b0] | (simp only [i64_w, i32_w]; rw [c12b0]) | skip)
                    have H' := Aside0.mk H
                    clear H
                    go_wp2
                    go_meet
                    case rel => exact ⟨_, (false), (by first | rfl | (simp; done) | (simp [*]; done)), H', ⟨by have := HK1.out; first | omega | exact Nat.le_refl _⟩, ⟨by (with_reducible repeat (first | apply Kd.R_alloc | apply Kd.R_drewN | apply Kd.R_drew)); exact HO_8.out⟩, ⟨by repeat (first | (with_reducible first | exact HB.out | apply below_alloc | apply pw_below_drewN | apply below_drew1) | exact HB.out)⟩⟩
                case rest =>
                  clear HC11
                  try clear c1
                  try clear p1
                  try clear q1
                  try clear hx1
                  try clear p2
                  try clear c3
                  try clear c3b0
                  try clear c4
                  try clear c4b0
                  try clear c6
                  try clear c6b0
                  try clear p6
                  try clear c7
                  try clear c7b0
                  try clear c9
                  try clear c9b0
                  try clear c9b1
                  try clear c10
                  try clear p10
                  try clear q10
                  try clear hx10
                  try clear c12
                  try clear c12b0
                  try clear hx1004_0
                  try clear p1004
                  try clear p2
                  try clear q1004
                  obtain ⟨kq, x39_10, rfl, HA, HJ10, HO_8, HB⟩ := hcut
                  cases kq with
                  | zero => exact absurd HA.out (by simp [tidelineref06_bits.j1])
                  | succ kj10 =>
                    have H := HA.out
                    clear HA
                    simp only [tidelineref06_bits.j1] at H
                    by_cases c13 : x39_10 = true
                    · subst c13
                      have H1 : (some (([] : List Bool), 0, 21)) = some (r1, r2, r3) := by rw [if_pos rfl] at H; exact H
                      clear H
                      have H := H1
                      clear H1
                      simp only [Option.some.injEq, Prod.mk.injEq] at H
                      obtain ⟨rfl, rfl, rfl⟩ := H
                      go_wp2
                      go_ret3
                      exact ⟨_, by first | rfl | (simp [errW_none, errW_some] <;> rfl) | (simp only [← hji5, ← hji8, ← hji10]; first | rfl | (simp [errW_none, errW_some] <;> rfl)) | (simp [*, errW_none, errW_some] <;> rfl), by first | exact Kd.R_nil _ _ _ _ _ | exact Kd.N_nil _ _ _ _ _ | exact Kd.V_nil _ _ _ _ _ | exact Kd.Q_nil _ _ _ _ _ | exact Kd.S_nil _ _ _ _ _, by repeat (first | (with_reducible first | exact HB.out | apply below_alloc | apply pw_below_drewN | apply below_drew1) | exact HB.out)⟩
                    · replace c13 := Bool.eq_false_iff.mpr c13
                      subst c13
                      have H1 : (if x9_1 < a1 then (if x8_1.length < 140737488355328 then (tidelineref06_bits.l0 kj10 l0 a1 (wrap64 (Int.tdiv (wrap64 (a1 + 7)) 8)) (x8_1 ++ [((Int.tmod (ji10) 2) == 1)]) (wrap64 (x9_1 + 1))) else (none)) else (tidelineref06_bits.l0 kj10 l0 a1 (wrap64 (Int.tdiv (wrap64 (a1 + 7)) 8)) x8_1 (wrap64 (x9_1 + 1)))) = some (r1, r2, r3) := by rw [if_neg (show ¬ (false = true) by decide)] at H; exact H
                      clear H
                      have H := H1
                      clear H1
                      by_cases c14 : x9_1 < a1
                      · rw [if_pos c14] at H
                        have c14b0 : decide (x9_1 < a1) = true := decide_eq_true c14
                        clear c14
                        by_cases c15 : x8_1.length < 140737488355328
                        · rw [if_pos c15] at H
                          have LMc15 := Aside0.mk c15
                          clear c15
                          obtain ⟨y1005, hy1005⟩ : ∃ y_ : List Bool, y_ = (x8_1 ++ [((Int.tmod (ji10) 2) == 1)]) := ⟨_, rfl⟩
                          replace H : (tidelineref06_bits.l0 kj10 l0 a1 (wrap64 (Int.tdiv (wrap64 (a1 + 7)) 8)) y1005 (wrap64 (x9_1 + 1))) = some (r1, r2, r3) := by first | (rw [hy1005]; with_reducible exact H) | (have H2_ := (Option.bind_some _ _).symm.trans H; rw [hy1005]; with_reducible exact H2_) | (have H2_ := (Option.bind_some _ _).symm.trans H; with_reducible exact H2_) | with_reducible exact H | (rw [hy1005]; exact H) | exact H
                          have Ny1005 := Aside0.mk hy1005
                          clear hy1005
                          have H' := Aside0.mk H
                          clear H
                          go_wp2_with (first | ((with_reducible refine gate_builtin (b := .append) (xs := #[.tmp 43, .tmp 45]) rfl ?_); at_builtin; refine Kd.R_append Kd.bool (w0 := w) w.heap.size rfl (.tmp 43) (.tmp 45) 121 4 (.bool false) 1 rfl Try.underlying121 info4 rfl (by decide) (by omega) u8 x8_1 ((Int.tmod (ji10) 2) == 1) [.bool ((Int.tmod (ji10) 2) == 1)] (fun _ => True) (fun _ => False) rfl rfl ?aP (fun _ hk => hk.elim) ?aF ?aO ?aB ?aS ?aL ?_; (case aP => exact rfl); (case aB => exact (by repeat (first | (with_reducible first | exact HB.out | apply below_alloc | apply pw_below_drewN | apply below_drew1) | exact HB.out))); (case aF => exact (fun _ _ => trivial)); (case aO => exact (by (with_reducible repeat (first | apply Kd.R_alloc | apply Kd.R_drewN | apply Kd.R_drew)); exact HO_8.out)); (case aS => exact (below_size (by repeat (first | (with_reducible first | exact HB.out | apply below_alloc | apply pw_below_drewN | apply below_drew1) | exact HB.out)))); (case aL => have := LMc15.out; omega); intro v1006 w16 ho hb hg hat; rw [← Ny1005.out] at ho; have n0_ := Aside0.mk (hb); have n1_ := Aside0.mk (ho); clear HB; clear HO_8; have HB := n0_; have HO1007 := n1_; clear n0_ n1_; clear ho hb hg hat))
                          go_roundg kj10
                          case measure => have := HK1.out; have := HJ10.out; omega
                          case rel => exact ⟨(y1005), (wrap64 (x9_1 + 1)), (by first | rfl | (simp; done) | (simp [*]; done)), H', ⟨by have := HK1.out; have := HJ10.out; omega⟩, ⟨by (with_reducible repeat (first | apply Kd.R_alloc | apply Kd.R_drewN | apply Kd.R_drew)); exact HO1007.out⟩, ⟨by repeat (first | (with_reducible first | exact HB.out | apply below_alloc | apply pw_below_drewN | apply below_drew1) | exact HB.out)⟩⟩
                        · rw [if_neg c15] at H
                          exact absurd H (by simp)
                      · rw [if_neg c14] at H
                        have c14b0 : decide (x9_1 < a1) = false := decide_eq_false c14
                        clear c14
                        have H' := Aside0.mk H
                        clear H
                        go_wp2
                        go_roundg kj10
                        case measure => have := HK1.out; have := HJ10.out; omega
                        case rel => exact ⟨(x8_1), (wrap64 (x9_1 + 1)), (by first | rfl | (simp; done) | (simp [*]; done)), H', ⟨by have := HK1.out; have := HJ10.out; omega⟩, ⟨by (with_reducible repeat (first | apply Kd.R_alloc | apply Kd.R_drewN | apply Kd.R_drew)); exact HO_8.out⟩, ⟨by repeat (first | (with_reducible first | exact HB.out | apply below_alloc | apply pw_below_drewN | apply below_drew1) | exact HB.out)⟩⟩
              · rw [if_neg c9] at H
                exact absurd H (by simp)
            · rw [if_neg c7] at H
              exact absurd H (by simp)
          · rw [if_neg c6] at H
            exact absurd H (by simp)
        · rw [if_neg c4] at H
          have c4b0 : decide (x9_1 < (wrap64 (8 * (wrap64 (Int.tdiv (wrap64 (a1 + 7)) 8))))) = false := decide_eq_false c4
          clear c4
          simp only [Option.some.injEq, Prod.mk.injEq] at H
          obtain ⟨rfl, rfl, rfl⟩ := H
          go_wp2
          go_ret3
          exact ⟨_, by first | rfl | (simp [errW_none, errW_some] <;> rfl) | (simp [*, errW_none, errW_some] <;> rfl), by (with_reducible repeat (first | apply Kd.R_alloc | apply Kd.R_drewN | apply Kd.R_drew)); exact HO_8.out, by repeat (first | (with_reducible first | exact HB.out | apply below_alloc | apply pw_below_drewN | apply below_drew1) | exact HB.out)⟩

end Go.Proofs.Ytlmcefhpnfoahaa.P
end

section
namespace Go.Proofs.Ytlmcefhpnfoahaa.P
open Go.RowKit Go.Proofs.YtlmcefhpnfoahaaW.PrintWords Go.Proofs.YtlmcefhpnfoahaaW.PrintLast Go.Proofs.YtlmcefhpnfoahaaW.PrintMore
attribute [local go_sem] max2_int min2_int max_two min_two max_three min_three max_four min_four   -- for this text's walks alone
set_option linter.unusedVariables false
set_option linter.unusedSimpArgs false

mutual
def tidelineref05_Get.j0 : Nat → List Int → Int → Bool → Option (List Int × Int)
  | 0, _, _, _ => none
  | k + 1, x0, x1, x23 => if x23 = true then (some (([] : List Int), 1)) else (tidelineref05_Get.l0 k x0 x1 ([] : List Int) 0)
def tidelineref05_Get.l0 : Nat → List Int → Int → List Int → Int → Option (List Int × Int)
  | 0, _, _, _, _ => none
  | k + 1, x0, x1, x6, x7 => if (x6.length : Int) < x1 then (if x7 = (x0.length : Int) then (some (([] : List Int), 20)) else (if 0 ≤ x7 then (if x7 ≤ (x0.length : Int) then ((tidelineref02_Get.f k (x0.drop (x7 : Int).toNat)).bind fun bt1009 => (if bt1009.2.2 = 0 then (if bt1009.1 = 0 then (tidelineref05_Get.j2 k x0 x1 x6 x7 bt1009.1 bt1009.2.1 true) else (tidelineref05_Get.j2 k x0 x1 x6 x7 bt1009.1 bt1009.2.1 (decide (bt1009.1 > (IntKind.u64.wrap (wrap64 (x1 - (x6.length : Int)))))))) else (some (([] : List Int), bt1009.2.2)))) else (none)) else (none))) else (if x7 = (x0.length : Int) then (tidelineref05_Get.l2 k x6 ([] : List Int) 0 0 0) else (some (([] : List Int), 21)))
def tidelineref05_Get.j2 : Nat → List Int → Int → List Int → Int → Int → Int → Bool → Option (List Int × Int)
  | 0, _, _, _, _, _, _, _ => none
  | k + 1, x0, x1, x6, x7, x8, x9, x53 => if x53 = true then (some (([] : List Int), 21)) else (if 0 ≤ (wrap64 (x7 + x9)) then (if (wrap64 (x7 + x9)) ≤ (x0.length : Int) then ((tidelineref02_Get.f k (x0.drop ((wrap64 (x7 + x9)) : Int).toNat)).bind fun bt1013 => (if bt1013.2.2 = 0 then ((tidelineref02_Zag.f bt1013.1).bind fun t1016 => (if (x6.length : Int) > 0 then (if 0 ≤ (wrap64 ((x6.length : Int) - 1)) then (if (wrap64 ((x6.length : Int) - 1)) < (x6.length : Int) then (tidelineref05_Get.j3 k x0 x1 x6 (wrap64 (x7 + x9)) x8 bt1013.2.1 (IntKind.u64.wrap (t1016)) ((rd x6 (wrap64 ((x6.length : Int) - 1))) == (IntKind.u64.wrap (t1016)))) else (none)) else (none)) else (tidelineref05_Get.j3 k x0 x1 x6 (wrap64 (x7 + x9)) x8 bt1013.2.1 (IntKind.u64.wrap (t1016)) false))) else (some (([] : List Int), bt1013.2.2)))) else (none)) else (none))
def tidelineref05_Get.j3 : Nat → List Int → Int → List Int → Int → Int → Int → Int → Bool → Option (List Int × Int)
  | 0, _, _, _, _, _, _, _, _ => none
  | k + 1, x0, x1, x6, x7, x8, x9, x12, x83 => if x83 = true then (some (([] : List Int), 21)) else (tidelineref05_Get.l1 k x0 x1 x6 (wrap64 (x7 + x9)) x8 x12 0)
def tidelineref05_Get.l1 : Nat → List Int → Int → List Int → Int → Int → Int → Int → Option (List Int × Int)
  | 0, _, _, _, _, _, _, _ => none
  | k + 1, x0, x1, x6, x7, x8, x12, x13 => if x13 < x8 then (if x6.length < 17592186044416 then (tidelineref05_Get.l1 k x0 x1 (x6 ++ [x12]) x7 x8 x12 (IntKind.u64.wrap (x13 + 1))) else (none)) else (tidelineref05_Get.l0 k x0 x1 x6 x7)
def tidelineref05_Get.l2 : Nat → List Int → List Int → Int → Int → Int → Option (List Int × Int)
  | 0, _, _, _, _, _ => none
  | k + 1, x6, x14, x15, x16, x17 => if x17 < (x6.length : Int) then (if 0 ≤ x17 then (if x14.length < 17592186044416 then (tidelineref05_Get.l2 k x6 (x14 ++ [wrap64 (IntKind.u64.wrap (x16 + (IntKind.u64.wrap (x15 + (rd x6 x17)))))]) (IntKind.u64.wrap (x15 + (rd x6 x17))) (IntKind.u64.wrap (x16 + (IntKind.u64.wrap (x15 + (rd x6 x17))))) (wrap64 (x17 + 1))) else (none)) else (none)) else (some (x14, 0))
end
def tidelineref05_Get.f (k : Nat) (l0 : List Int) (a1 : Int) : Option (List Int × Int) := if a1 < 0 then (tidelineref05_Get.j0 k l0 a1 true) else (tidelineref05_Get.j0 k l0 a1 (decide (a1 > 65536)))
set_option maxHeartbeats 8000000 in
set_option maxRecDepth 100000 in
theorem tidelineref05_Get.calls (k : Nat) (A0 : Option Addr) (c0 : Nat) (l0 : List Int) (a1 : Int) (r1 : List Int) (r2 : Int) (w : World) (hr0 : Kd.C (Kd.int .u8) w A0 l0.length l0) (hc0 : l0.length ≤ c0) (h : tidelineref05_Get.f k l0 a1 = some (r1, r2)) :
    Calls Try.prog 145 #[.slice A0 l0.length c0, .int .i64 a1] w fun e w' => ∃ v0_ : Value, e = .returned (.tuple #[v0_, .int .i64 r2]) ∧ Kd.R (Kd.int .i64) 2 w' w.heap.size (fun _ => True) v0_ r1 ∧ Below w.heap.size w w' := by
  have HR0 := Aside0.mk hr0
  have HC0 := Aside0.mk hc0
  clear hr0 hc0
  have HB := Aside0.mk (Below.refl w.heap.size w)
  have H : (if a1 < 0 then (tidelineref05_Get.j0 k l0 a1 true) else (tidelineref05_Get.j0 k l0 a1 (decide (a1 > 65536)))) = some (r1, r2) := h
  clear h
  have HC3 := Aside0.mk H
  clear H
  go_enter Try.func145, Try.ntmps145
  go_upto_region 1 with (fail)
  go_cut [23] (fun v23 wc => ∃ (kq : Nat) (x23_2 : Bool), v23 = .bool x23_2 ∧ Aside0 (tidelineref05_Get.j0 kq l0 a1 x23_2 = some (r1, r2)) ∧ Aside0 (kq ≤ k) ∧ Aside0 (Below w.heap.size w wc))
  case first =>
    have H := HC3.out
    clear HC3
    by_cases c4 : a1 < 0
    · rw [if_pos c4] at H
      have c4b0 : decide (a1 < 0) = true := decide_eq_true c4
      clear c4
      (first | rw [c4b0] | (simp only [i64_w, i32_w]; rw [c4b0]) | skip)
      have H' := Aside0.mk H
      clear H
      go_wp2
      go_meet
      case rel => exact ⟨_, (true), (by first | rfl | (simp; done) | (simp [*]; done)), H', ⟨by first | omega | exact Nat.le_refl _⟩, ⟨by repeat (first | (with_reducible first | exact HB.out | apply below_alloc | apply pw_below_drewN | apply below_drew1) | exact HB.out)⟩⟩
    · rw [if_neg c4] at H
      have c4b0 : decide (a1 < 0) = false := decide_eq_false c4
      clear c4
      (first | rw [c4b0] | (simp only [i64_w, i32_w]; rw [c4b0]) | skip)
      have H' := Aside0.mk H
      clear H
      go_wp2
      go_meet
      case rel => exact ⟨_, (decide (a1 > 65536)), (by first | rfl | (simp; done) | (simp [*]; done)), H', ⟨by first | omega | exact Nat.le_refl _⟩, ⟨by repeat (first | (with_reducible first | exact HB.out | apply below_alloc | apply pw_below_drewN | apply below_drew1) | exact HB.out)⟩⟩
  case rest =>
    clear HC3
    try clear c1
    try clear p2
    try clear c4
    try clear c4b0
    obtain ⟨kq, x23_2, rfl, HA, HJ2, HB⟩ := hcut
    cases kq with
    | zero => exact absurd HA.out (by simp [tidelineref05_Get.j0])
    | succ kj2 =>
      have H := HA.out
      clear HA
      simp only [tidelineref05_Get.j0] at H
      by_cases c5 : x23_2 = true
      · subst c5
        have H1 : (some (([] : List Int), 1)) = some (r1, r2) := by rw [if_pos rfl] at H; exact H
        clear H
        have H := H1
        clear H1
        simp only [Option.some.injEq, Prod.mk.injEq] at H
        obtain ⟨rfl, rfl⟩ := H
        go_wp2
        go_ret2
        exact ⟨_, by first | rfl | (simp [errW_none, errW_some] <;> rfl) | (simp [*, errW_none, errW_some] <;> rfl), by first | exact Kd.R_nil _ _ _ _ _ | exact Kd.N_nil _ _ _ _ _ | exact Kd.V_nil _ _ _ _ _ | exact Kd.Q_nil _ _ _ _ _ | exact Kd.S_nil _ _ _ _ _, by repeat (first | (with_reducible first | exact HB.out | apply below_alloc | apply pw_below_drewN | apply below_drew1) | exact HB.out)⟩
      · replace c5 := Bool.eq_false_iff.mpr c5
        subst c5
        have H1 : (tidelineref05_Get.l0 kj2 l0 a1 ([] : List Int) 0) = some (r1, r2) := by rw [if_neg (show ¬ (false = true) by decide)] at H; exact H
        clear H
        have H := H1
        clear H1
        have H' := Aside0.mk H
        clear H
        go_wp2
        go_loopg [6, 7] kj2 (fun kq v6 v7 w' => ∃ (x6_2 : List Int) (x7_2 : Int), v7 = .int .i64 x7_2 ∧ Aside0 (tidelineref05_Get.l0 kq l0 a1 x6_2 x7_2 = some (r1, r2)) ∧ Aside0 (kq ≤ kj2) ∧ Aside0 (Kd.R (Kd.int .u64) 84 w' w.heap.size (fun _ => True) v6 x6_2) ∧ Aside0 (Below w.heap.size w w'))
        case atStart => exact ⟨(([] : List Int)), (0), (by first | rfl | (simp; done) | (simp [*]; done)), H', ⟨Nat.le_refl _⟩, ⟨by first | exact Kd.R_nil _ _ _ _ _ | exact Kd.N_nil _ _ _ _ _ | exact Kd.V_nil _ _ _ _ _ | exact Kd.Q_nil _ _ _ _ _ | exact Kd.S_nil _ _ _ _ _⟩, ⟨by repeat (first | (with_reducible first | exact HB.out | apply below_alloc | apply pw_below_drewN | apply below_drew1) | exact HB.out)⟩⟩
        case round =>
          clear H'
          try clear c1
          try clear p2
          try clear c4
          try clear c4b0
          try clear c5
          try clear p2
          obtain ⟨x6_2, x7_2, rfl, HA, HK2, HO_6, HB⟩ := hrel
          cases gk with
          | zero => exact absurd HA.out (by simp [tidelineref05_Get.l0])
          | succ k2 =>
            have H := HA.out
            clear HA
            simp only [tidelineref05_Get.l0] at H
            by_cases c6 : (x6_2.length : Int) < a1
            · rw [if_pos c6] at H
              have c6b0 : decide ((x6_2.length : Int) < a1) = true := decide_eq_true c6
              clear c6
              by_cases c7 : x7_2 = (l0.length : Int)
              · rw [if_pos c7] at H
                have c7b0 : (x7_2 == (l0.length : Int)) = true := beq_iff_eq.mpr c7
                have c7b1 : (x7_2 != (l0.length : Int)) = false := bne_eq_false_iff_eq.mpr c7
                clear c7
                simp only [Option.some.injEq, Prod.mk.injEq] at H
                obtain ⟨rfl, rfl⟩ := H
                obtain ⟨Ao8, co8, eo8⟩ := Kd.R_slice HO_6.out
                subst eo8
                go_wp2
                go_ret2
                exact ⟨_, by first | rfl | (simp [errW_none, errW_some] <;> rfl) | (simp [*, errW_none, errW_some] <;> rfl), by first | exact Kd.R_nil _ _ _ _ _ | exact Kd.N_nil _ _ _ _ _ | exact Kd.V_nil _ _ _ _ _ | exact Kd.Q_nil _ _ _ _ _ | exact Kd.S_nil _ _ _ _ _, by repeat (first | (with_reducible first | exact HB.out | apply below_alloc | apply pw_below_drewN | apply below_drew1) | exact HB.out)⟩
              · rw [if_neg c7] at H
                have c7b0 : (x7_2 == (l0.length : Int)) = false := beq_eq_false_iff_ne.mpr c7
                have c7b1 : (x7_2 != (l0.length : Int)) = true := bne_iff_ne.mpr c7
                by_cases c9 : 0 ≤ x7_2
                · rw [if_pos c9] at H
                  have c9b0 := eq_true c9
                  have c9b1 : decide (0 ≤ x7_2) = true := decide_eq_true c9
                  clear c9
                  by_cases c10 : x7_2 ≤ (l0.length : Int)
                  · rw [if_pos c10] at H
                    have c10b0 := eq_true c10
                    have c10b1 : decide (x7_2 ≤ (l0.length : Int)) = true := decide_eq_true c10
                    clear c10
                    replace H := Option.bind_eq_some_iff.mp H
                    obtain ⟨⟨t1009, t1010, t1011⟩, A110, H⟩ := H
                    replace H : (if t1011 = 0 then (if t1009 = 0 then (tidelineref05_Get.j2 k2 l0 a1 x6_2 x7_2 t1009 t1010 true) else (tidelineref05_Get.j2 k2 l0 a1 x6_2 x7_2 t1009 t1010 (decide (t1009 > (IntKind.u64.wrap (wrap64 (a1 - (x6_2.length : Int)))))))) else (some (([] : List Int), t1011))) = some (r1, r2) := H
                    have A11 := Aside0.mk A110
                    clear A110
                    by_cases c12 : t1011 = 0
                    · rw [if_pos c12] at H
                      have c12b0 : (t1011 == 0) = true := beq_iff_eq.mpr c12
                      have c12b1 : (t1011 != 0) = false := bne_eq_false_iff_eq.mpr c12
                      clear c12
                      have HC13 := Aside0.mk H
                      clear H
                      obtain ⟨Ao14, co14, eo14⟩ := Kd.R_slice HO_6.out
                      subst eo14
                      obtain ⟨i015, hi015, _, hsz15, _⟩ := info_parts info5
                      obtain ⟨A15, hcut15, hA15, hC15⟩ := print_drop_of (P := Try.prog) (Value.int .u8) 0 22 5 .i64 Try.underlying22 hi015 hsz15 A0 c0 l0 x7_2 (of_decide_eq_true (by first | (with_reducible assumption) | assumption)) (of_decide_eq_true (by first | (with_reducible assumption) | assumption)) HC0.out
                      have HR1008 := Aside0.mk (Kd.C_of_reads (h1 := fun _ => rfl) (hA15 _ (Kd.reads_of_C HR0.out)))
                      have HC1008 := Aside0.mk hC15
                      clear hA15 hC15 hi015 hsz15
                      go_upto_region 11 with (first | ((with_reducible refine gate_callee (f := 108) rfl ?_); refine goesL_ (some 36) rfl rfl Try.func108 (by kernel_rfl) rfl #[.slice A15 (l0.drop (x7_2 : Int).toNat).length (c0 - x7_2.toNat)] rfl (by (try simp only [List.map_toArray, List.map_cons, List.map_nil]); first | done | (rw [show (l0.drop (x7_2 : Int).toNat).length = (l0.length - x7_2.toNat) from List.length_drop] <;> rfl) | rfl | (simp only [List.length_drop, List.length_take]; rfl)) ?_; (with_reducible refine (tidelineref02_Get.calls k2 _ _ (l0.drop (x7_2 : Int).toNat) t1009 t1010 t1011 _ ?side1 ?side2 A11.out).mono ?_); (case side1 => repeat (first | exact (Kd.C_below HR1008.out HB.out) | (with_reducible refine Kd.C_alloc ?_ _) | (with_reducible refine Kd.C_drewN ?_ _) | (with_reducible refine Kd.C_drew ?_))); (case side2 => exact HC1008.out); rintro e w' ⟨rfl, ⟨nd, rfl⟩⟩; refine ⟨_, rfl, ?_⟩))
                      (try simp only [Act.put, List.setIfInBounds_toArray, List.set_cons_zero, List.set_cons_succ])
                      go_cut [53] (fun v53 wc => ∃ (kq : Nat) (x53_12 : Bool), v53 = .bool x53_12 ∧ Aside0 (tidelineref05_Get.j2 kq l0 a1 x6_2 x7_2 t1009 t1010 x53_12 = some (r1, r2)) ∧ Aside0 (kq ≤ k2) ∧ Aside0 (Kd.R (Kd.int .u64) 84 wc w.heap.size (fun _ => True) (.slice Ao14 x6_2.length co14) x6_2) ∧ Aside0 (Below w.heap.size w wc))
                      case first =>
                        have H := HC13.out
                        clear HC13
                        by_cases c16 : t1009 = 0
                        · rw [if_pos c16] at H
                          have c16b0 : (t1009 == 0) = true := beq_iff_eq.mpr c16
                          have c16b1 : (t1009 != 0) = false := bne_eq_false_iff_eq.mpr c16
                          clear c16
                          (first | rw [c16b0] | (simp only [i64_w, i32_w]; rw [c16b0]) | skip)
                          have H' := Aside0.mk H
                          clear H
                          go_wp2
                          go_meet
                          case rel => exact ⟨_, (true), (by first | rfl | (simp; done) | (simp [*]; done)), H', ⟨by have := HJ2.out; have := HK2.out; first | omega | exact Nat.le_refl _⟩, ⟨by (with_reducible repeat (first | apply Kd.R_alloc | apply Kd.R_drewN | apply Kd.R_drew)); exact HO_6.out⟩, ⟨by repeat (first | (with_reducible first | exact HB.out | apply below_alloc | apply pw_below_drewN | apply below_drew1) | exact HB.out)⟩⟩
                        · rw [if_neg c16] at H
                          have c16b0 : (t1009 == 0) = false := beq_eq_false_iff_ne.mpr c16
                          have c16b1 : (t1009 != 0) = true := bne_iff_ne.mpr c16
                          (first | rw [c16b0] | (simp only [i64_w, i32_w]; rw [c16b0]) | skip)
                          have H' := Aside0.mk H
                          clear H
                          go_wp2
                          go_meet
                          case rel => exact ⟨_, (decide (t1009 > (IntKind.u64.wrap (wrap64 (a1 - (x6_2.length : Int)))))), (by first | rfl | (simp; done) | (simp [*]; done)), H', ⟨by have := HJ2.out; have := HK2.out; first | omega | exact Nat.le_refl _⟩, ⟨by (with_reducible repeat (first | apply Kd.R_alloc | apply Kd.R_drewN | apply Kd.R_drew)); exact HO_6.out⟩, ⟨by repeat (first | (with_reducible first | exact HB.out | apply below_alloc | apply pw_below_drewN | apply below_drew1) | exact HB.out)⟩⟩
                      case rest =>
                        clear HC13
                        try clear c1
                        try clear p2
                        try clear c4
                        try clear c4b0
                        try clear c5
                        try clear c6
                        try clear c6b0
                        try clear p6
                        try clear c7
                        try clear c7b0
                        try clear c7b1
                        try clear c9
                        try clear c9b0
                        try clear c9b1
                        try clear c10
                        try clear c10b0
                        try clear c10b1
                        try clear c12
                        try clear c12b0
                        try clear c12b1
                        try clear c14
                        try clear c16
                        try clear c16b0
                        try clear c16b1
                        try clear p2
                        obtain ⟨kq, x53_12, rfl, HA, HJ12, HO_6, HB⟩ := hcut
                        cases kq with
                        | zero => exact absurd HA.out (by simp [tidelineref05_Get.j2])
                        | succ kj12 =>
                          have H := HA.out
                          clear HA
                          simp only [tidelineref05_Get.j2] at H
                          by_cases c17 : x53_12 = true
                          · subst c17
                            have H1 : (some (([] : List Int), 21)) = some (r1, r2) := by rw [if_pos rfl] at H; exact H
                            clear H
                            have H := H1
                            clear H1
                            simp only [Option.some.injEq, Prod.mk.injEq] at H
                            obtain ⟨rfl, rfl⟩ := H
                            go_wp2
                            go_ret2
                            exact ⟨_, by first | rfl | (simp [errW_none, errW_some] <;> rfl) | (simp [*, errW_none, errW_some] <;> rfl), by first | exact Kd.R_nil _ _ _ _ _ | exact Kd.N_nil _ _ _ _ _ | exact Kd.V_nil _ _ _ _ _ | exact Kd.Q_nil _ _ _ _ _ | exact Kd.S_nil _ _ _ _ _, by repeat (first | (with_reducible first | exact HB.out | apply below_alloc | apply pw_below_drewN | apply below_drew1) | exact HB.out)⟩
                          · replace c17 := Bool.eq_false_iff.mpr c17
                            subst c17
                            have H1 : (if 0 ≤ (wrap64 (x7_2 + t1010)) then (if (wrap64 (x7_2 + t1010)) ≤ (l0.length : Int) then ((tidelineref02_Get.f kj12 (l0.drop ((wrap64 (x7_2 + t1010)) : Int).toNat)).bind fun bt1013 => (if bt1013.2.2 = 0 then ((tidelineref02_Zag.f bt1013.1).bind fun t1016 => (if (x6_2.length : Int) > 0 then (if 0 ≤ (wrap64 ((x6_2.length : Int) - 1)) then (if (wrap64 ((x6_2.length : Int) - 1)) < (x6_2.length : Int) then (tidelineref05_Get.j3 kj12 l0 a1 x6_2 (wrap64 (x7_2 + t1010)) t1009 bt1013.2.1 (IntKind.u64.wrap (t1016)) ((rd x6_2 (wrap64 ((x6_2.length : Int) - 1))) == (IntKind.u64.wrap (t1016)))) else (none)) else (none)) else (tidelineref05_Get.j3 kj12 l0 a1 x6_2 (wrap64 (x7_2 + t1010)) t1009 bt1013.2.1 (IntKind.u64.wrap (t1016)) false))) else (some (([] : List Int), bt1013.2.2)))) else (none)) else (none)) = some (r1, r2) := by rw [if_neg (show ¬ (false = true) by decide)] at H; exact H
                            clear H
                            have H := H1
                            clear H1
                            obtain ⟨ji18, hji18⟩ : ∃ j_ : Int, (wrap64 (x7_2 + t1010)) = j_ := ⟨_, rfl⟩
                            replace H : (if 0 ≤ (ji18) then (if (ji18) ≤ (l0.length : Int) then ((tidelineref02_Get.f kj12 (l0.drop ((ji18) : Int).toNat)).bind fun bt1013 => (if bt1013.2.2 = 0 then ((tidelineref02_Zag.f bt1013.1).bind fun t1016 => (if (x6_2.length : Int) > 0 then (if 0 ≤ (wrap64 ((x6_2.length : Int) - 1)) then (if (wrap64 ((x6_2.length : Int) - 1)) < (x6_2.length : Int) then (tidelineref05_Get.j3 kj12 l0 a1 x6_2 ji18 t1009 bt1013.2.1 (IntKind.u64.wrap (t1016)) ((rd x6_2 (wrap64 ((x6_2.length : Int) - 1))) == (IntKind.u64.wrap (t1016)))) else (none)) else (none)) else (tidelineref05_Get.j3 kj12 l0 a1 x6_2 ji18 t1009 bt1013.2.1 (IntKind.u64.wrap (t1016)) false))) else (some (([] : List Int), bt1013.2.2)))) else (none)) else (none)) = some (r1, r2) := by first | (rw [hji18] at H; exact H) | (simp only [hji18] at H ⊢; exact H)
                            have hji18w : (IntKind.i64.wrap (x7_2 + t1010)) = ji18 := (i64_w _).trans hji18
                            by_cases c19 : 0 ≤ (ji18)
                            · rw [if_pos c19] at H
                              have c19b0 := eq_true c19
                              have c19b1 : decide (0 ≤ (ji18)) = true := decide_eq_true c19
                              clear c19
                              by_cases c20 : (ji18) ≤ (l0.length : Int)
                              · rw [if_pos c20] at H
                                have c20b0 := eq_true c20
                                have c20b1 : decide ((ji18) ≤ (l0.length : Int)) = true := decide_eq_true c20
                                clear c20
                                replace H := Option.bind_eq_some_iff.mp H
                                obtain ⟨⟨t1013, t1014, t1015⟩, A210, H⟩ := H
                                replace H : (if t1015 = 0 then ((tidelineref02_Zag.f t1013).bind fun t1016 => (if (x6_2.length : Int) > 0 then (if 0 ≤ (wrap64 ((x6_2.length : Int) - 1)) then (if (wrap64 ((x6_2.length : Int) - 1)) < (x6_2.length : Int) then (tidelineref05_Get.j3 kj12 l0 a1 x6_2 ji18 t1009 t1014 (IntKind.u64.wrap (t1016)) ((rd x6_2 (wrap64 ((x6_2.length : Int) - 1))) == (IntKind.u64.wrap (t1016)))) else (none)) else (none)) else (tidelineref05_Get.j3 kj12 l0 a1 x6_2 ji18 t1009 t1014 (IntKind.u64.wrap (t1016)) false))) else (some (([] : List Int), t1015))) = some (r1, r2) := H
                                have A21 := Aside0.mk A210
                                clear A210
                                by_cases c22 : t1015 = 0
                                · rw [if_pos c22] at H
                                  have c22b0 : (t1015 == 0) = true := beq_iff_eq.mpr c22
                                  have c22b1 : (t1015 != 0) = false := bne_eq_false_iff_eq.mpr c22
                                  clear c22
                                  replace H := Option.bind_eq_some_iff.mp H
                                  obtain ⟨t1016, A230, H⟩ := H
                                  replace H : (if (x6_2.length : Int) > 0 then (if 0 ≤ (wrap64 ((x6_2.length : Int) - 1)) then (if (wrap64 ((x6_2.length : Int) - 1)) < (x6_2.length : Int) then (tidelineref05_Get.j3 kj12 l0 a1 x6_2 ji18 t1009 t1014 (IntKind.u64.wrap (t1016)) ((rd x6_2 (wrap64 ((x6_2.length : Int) - 1))) == (IntKind.u64.wrap (t1016)))) else (none)) else (none)) else (tidelineref05_Get.j3 kj12 l0 a1 x6_2 ji18 t1009 t1014 (IntKind.u64.wrap (t1016)) false)) = some (r1, r2) := H
                                  have A23 := Aside0.mk A230
                                  clear A230
                                  have HC24 := Aside0.mk H
                                  clear H
                                  obtain ⟨i025, hi025, _, hsz25, _⟩ := info_parts info5
                                  obtain ⟨A25, hcut25, hA25, hC25⟩ := print_drop_of (P := Try.prog) (Value.int .u8) 0 22 5 .i64 Try.underlying22 hi025 hsz25 A0 c0 l0 (ji18) (of_decide_eq_true (by first | (with_reducible assumption) | assumption)) (of_decide_eq_true (by first | (with_reducible assumption) | assumption)) HC0.out
                                  have HR1012 := Aside0.mk (Kd.C_of_reads (h1 := fun _ => rfl) (hA25 _ (Kd.reads_of_C HR0.out)))
                                  have HC1012 := Aside0.mk hC25
                                  clear hA25 hC25 hi025 hsz25
                                  go_upto_region 18 with (first | ((with_reducible refine gate_callee (f := 108) rfl ?_); refine goesL_ (some 61) rfl rfl Try.func108 (by kernel_rfl) rfl #[.slice A25 (l0.drop ((ji18) : Int).toNat).length (c0 - (ji18).toNat)] rfl (by (try simp only [List.map_toArray, List.map_cons, List.map_nil]); first | done | (rw [show (l0.drop ((ji18) : Int).toNat).length = (l0.length - (ji18).toNat) from List.length_drop] <;> rfl) | (simp only [hji18]; rfl) | rfl | (simp only [List.length_drop, List.length_take]; rfl)) ?_; (with_reducible refine (tidelineref02_Get.calls kj12 _ _ (l0.drop ((ji18) : Int).toNat) t1013 t1014 t1015 _ ?side1 ?side2 A21.out).mono ?_); (case side1 => repeat (first | exact (Kd.C_below HR1012.out HB.out) | (with_reducible refine Kd.C_alloc ?_ _) | (with_reducible refine Kd.C_drewN ?_ _) | (with_reducible refine Kd.C_drew ?_))); (case side2 => exact HC1012.out); rintro e w' ⟨rfl, ⟨nd, rfl⟩⟩; refine ⟨_, rfl, ?_⟩) | ((with_reducible refine gate_callee (f := 132) rfl ?_); refine goesL_ (some 69) rfl rfl Try.func132 (by kernel_rfl) rfl #[.int .u64 t1013] rfl (by (try simp only [List.map_toArray, List.map_cons, List.map_nil]); first | done | rfl | (simp only [List.length_drop, List.length_take]; rfl)) ?_; (with_reducible refine (tidelineref02_Zag.calls t1013 t1016 _ A23.out).mono ?_); rintro e w' ⟨rfl, ⟨nd, rfl⟩⟩; refine ⟨_, rfl, ?_⟩))
                                  (try simp only [Act.put, List.setIfInBounds_toArray, List.set_cons_zero, List.set_cons_succ])
                                  go_cut [83] (fun v83 wc => ∃ (kq : Nat) (x83_23 : Bool), v83 = .bool x83_23 ∧ Aside0 (tidelineref05_Get.j3 kq l0 a1 x6_2 ji18 t1009 t1014 (IntKind.u64.wrap (t1016)) x83_23 = some (r1, r2)) ∧ Aside0 (kq ≤ kj12) ∧ Aside0 (Kd.R (Kd.int .u64) 84 wc w.heap.size (fun _ => True) (.slice Ao14 x6_2.length co14) x6_2) ∧ Aside0 (Below w.heap.size w wc))
                                  case first =>
                                    have H := HC24.out
                                    clear HC24
                                    by_cases c26 : (x6_2.length : Int) > 0
                                    · rw [if_pos c26] at H
                                      have c26b0 : decide (0 < (x6_2.length : Int)) = true := decide_eq_true c26
                                      have c26b1 : decide (0 < x6_2.length) = true := decide_eq_true (by omega)
                                      clear c26
                                      (first | rw [c26b0] | (simp only [i64_w, i32_w]; rw [c26b0]) | skip)
                                      obtain ⟨ji27, hji27⟩ : ∃ j_ : Int, (wrap64 ((x6_2.length : Int) - 1)) = j_ := ⟨_, rfl⟩
                                      replace H : (if 0 ≤ (ji27) then (if (ji27) < (x6_2.length : Int) then (tidelineref05_Get.j3 kj12 l0 a1 x6_2 ji18 t1009 t1014 (IntKind.u64.wrap (t1016)) ((rd x6_2 (ji27)) == (IntKind.u64.wrap (t1016)))) else (none)) else (none)) = some (r1, r2) := by first | (rw [hji27] at H; exact H) | (simp only [hji27] at H ⊢; exact H)
                                      have hji27w : (IntKind.i64.wrap ((x6_2.length : Int) - 1)) = ji27 := (i64_w _).trans hji27
                                      by_cases c28 : 0 ≤ (ji27)
                                      · rw [if_pos c28] at H
                                        have c28b0 : decide (0 ≤ (ji27)) = true := decide_eq_true c28
                                        clear c28
                                        by_cases c29 : (ji27) < (x6_2.length : Int)
                                        · rw [if_pos c29] at H
                                          have c29b0 : decide ((ji27) < (x6_2.length : Int)) = true := decide_eq_true c29
                                          clear c29
                                          have H' := Aside0.mk H
                                          clear H
                                          have p1017 : 0 ≤ ((ji27) : Int) := of_decide_eq_true (by first | (with_reducible assumption) | assumption)
                                          have q1017 : (ji27) < (x6_2.length : Int) := of_decide_eq_true (by first | (with_reducible assumption) | assumption)
                                          obtain ⟨ad1017, e1017, hx1017_0⟩ := Kd.at_int (Kd.R_reads' HO_6.out).2.2 (ji27) p1017 q1017
                                          cases e1017
                                          replace p1017 := eq_true p1017
                                          replace q1017 := eq_true q1017
                                          go_wp2
                                          go_meet
                                          case rel => exact ⟨_, (((rd x6_2 (ji27)) == (IntKind.u64.wrap (t1016)))), (by first | rfl | (simp; done) | (simp only [← hji27] <;> (first | rfl | simp)) | (simp [*]; done)), H', ⟨by have := HJ2.out; have := HK2.out; have := HJ12.out; first | omega | exact Nat.le_refl _⟩, ⟨by (with_reducible repeat (first | apply Kd.R_alloc | apply Kd.R_drewN | apply Kd.R_drew)); exact HO_6.out⟩, ⟨by repeat (first | (with_reducible first | exact HB.out | apply below_alloc | apply pw_below_drewN | apply below_drew1) | exact HB.out)⟩⟩
                                        · rw [if_neg c29] at H
                                          exact absurd H (by simp)
                                      · rw [if_neg c28] at H
                                        exact absurd H (by simp)
                                    · rw [if_neg c26] at H
                                      have c26b0 : decide (0 < (x6_2.length : Int)) = false := decide_eq_false c26
                                      have c26b1 : decide (0 < x6_2.length) = false := decide_eq_false (by omega)
                                      clear c26
                                      (first | rw [c26b0] | (simp only [i64_w, i32_w]; rw [c26b0]) | skip)
                                      have H' := Aside0.mk H
                                      clear H
                                      go_wp2
                                      go_meet
                                      case rel => exact ⟨_, (false), (by first | rfl | (simp; done) | (simp [*]; done)), H', ⟨by have := HJ2.out; have := HK2.out; have := HJ12.out; first | omega | exact Nat.le_refl _⟩, ⟨by (with_reducible repeat (first | apply Kd.R_alloc | apply Kd.R_drewN | apply Kd.R_drew)); exact HO_6.out⟩, ⟨by repeat (first | (with_reducible first | exact HB.out | apply below_alloc | apply pw_below_drewN | apply below_drew1) | exact HB.out)⟩⟩
                                  case rest =>
                                    clear HC24
                                    try clear c1
                                    try clear p1
                                    try clear q1
                                    try clear hx1
                                    try clear c2
                                    try clear p2
                                    try clear c4
                                    try clear c4b0
                                    try clear c5
                                    try clear c6
                                    try clear c6b0
                                    try clear p6
                                    try clear c7
                                    try clear c7b0
                                    try clear c7b1
                                    try clear c9
                                    try clear c9b0
                                    try clear c9b1
                                    try clear c10
                                    try clear c10b0
                                    try clear c10b1
                                    try clear p10
                                    try clear q10
                                    try clear hx10
                                    try clear c12
                                    try clear c12b0
                                    try clear c12b1
                                    try clear c13
                                    try clear c14
                                    try clear c16
                                    try clear c16b0
                                    try clear c16b1
                                    try clear c17
                                    try clear c19
                                    try clear c19b0
                                    try clear c19b1
                                    try clear c20
                                    try clear c20b0
                                    try clear c20b1
                                    try clear c22
                                    try clear c22b0
                                    try clear c22b1
                                    try clear c26
                                    try clear c26b0
                                    try clear c26b1
                                    try clear c28
                                    try clear c28b0
                                    try clear c29
                                    try clear c29b0
                                    try clear hx1017_0
                                    try clear p1017
                                    try clear p2
                                    try clear p6
                                    try clear q1017
                                    obtain ⟨kq, x83_23, rfl, HA, HJ23, HO_6, HB⟩ := hcut
                                    cases kq with
                                    | zero => exact absurd HA.out (by simp [tidelineref05_Get.j3])
                                    | succ kj23 =>
                                      have H := HA.out
                                      clear HA
                                      simp only [tidelineref05_Get.j3] at H
                                      by_cases c30 : x83_23 = true
                                      · subst c30
                                        have H1 : (some (([] : List Int), 21)) = some (r1, r2) := by rw [if_pos rfl] at H; exact H
                                        clear H
                                        have H := H1
                                        clear H1
                                        simp only [Option.some.injEq, Prod.mk.injEq] at H
                                        obtain ⟨rfl, rfl⟩ := H
                                        go_wp2
                                        go_ret2
                                        exact ⟨_, by first | rfl | (simp [errW_none, errW_some] <;> rfl) | (simp only [← hji18]; first | rfl | (simp [errW_none, errW_some] <;> rfl)) | (simp [*, errW_none, errW_some] <;> rfl), by first | exact Kd.R_nil _ _ _ _ _ | exact Kd.N_nil _ _ _ _ _ | exact Kd.V_nil _ _ _ _ _ | exact Kd.Q_nil _ _ _ _ _ | exact Kd.S_nil _ _ _ _ _, by repeat (first | (with_reducible first | exact HB.out | apply below_alloc | apply pw_below_drewN | apply below_drew1) | exact HB.out)⟩
                                      · replace c30 := Bool.eq_false_iff.mpr c30
                                        subst c30
                                        have H1 : (tidelineref05_Get.l1 kj23 l0 a1 x6_2 (wrap64 (ji18 + t1014)) t1009 (IntKind.u64.wrap (t1016)) 0) = some (r1, r2) := by rw [if_neg (show ¬ (false = true) by decide)] at H; exact H
                                        clear H
                                        have H := H1
                                        clear H1
                                        have H' := Aside0.mk H
                                        clear H
                                        go_wp2
                                        go_loopg [6, 13] kj23 (fun kq v6 v13 w' => ∃ (x6_5 : List Int) (x13_5 : Int), v13 = .int .u64 x13_5 ∧ Aside0 (tidelineref05_Get.l1 kq l0 a1 x6_5 (wrap64 (ji18 + t1014)) t1009 (IntKind.u64.wrap (t1016)) x13_5 = some (r1, r2)) ∧ Aside0 (kq ≤ kj23) ∧ Aside0 (Kd.R (Kd.int .u64) 84 w' w.heap.size (fun _ => True) v6 x6_5) ∧ Aside0 (Below w.heap.size w w'))
                                        case atStart => exact ⟨(x6_2), (0), (by first | rfl | (simp; done) | (simp [*]; done)), H', ⟨Nat.le_refl _⟩, ⟨by (with_reducible repeat (first | apply Kd.R_alloc | apply Kd.R_drewN | apply Kd.R_drew)); exact HO_6.out⟩, ⟨by repeat (first | (with_reducible first | exact HB.out | apply below_alloc | apply pw_below_drewN | apply below_drew1) | exact HB.out)⟩⟩
                                        case round =>
                                          clear H'
                                          try clear c1
                                          try clear p1
                                          try clear q1
                                          try clear hx1
                                          try clear c2
                                          try clear p2
                                          try clear c3
                                          try clear c4
                                          try clear c4b0
                                          try clear c5
                                          try clear c6
                                          try clear c6b0
                                          try clear p6
                                          try clear c7
                                          try clear c7b0
                                          try clear c7b1
                                          try clear c9
                                          try clear c9b0
                                          try clear c9b1
                                          try clear c10
                                          try clear c10b0
                                          try clear c10b1
                                          try clear p10
                                          try clear q10
                                          try clear hx10
                                          try clear c12
                                          try clear c12b0
                                          try clear c12b1
                                          try clear c13
                                          try clear c14
                                          try clear c16
                                          try clear c16b0
                                          try clear c16b1
                                          try clear c17
                                          try clear c19
                                          try clear c19b0
                                          try clear c19b1
                                          try clear c20
                                          try clear c20b0
                                          try clear c20b1
                                          try clear c22
                                          try clear c22b0
                                          try clear c22b1
                                          try clear c26
                                          try clear c26b0
                                          try clear c26b1
                                          try clear c28
                                          try clear c28b0
                                          try clear c29
                                          try clear c29b0
                                          try clear c30
                                          try clear hx1017_0
                                          try clear p1
                                          try clear p10
                                          try clear p1017
                                          try clear p2
                                          try clear p6
                                          try clear q1
                                          try clear q10
                                          try clear q1017
                                          obtain ⟨x6_5, x13_5, rfl, HA, HK5, HO_6, HB⟩ := hrel
                                          cases gk with
                                          | zero => exact absurd HA.out (by simp [tidelineref05_Get.l1])
                                          | succ k5 =>
                                            have H := HA.out
                                            clear HA
                                            simp only [tidelineref05_Get.l1] at H
                                            by_cases c31 : x13_5 < t1009
                                            · rw [if_pos c31] at H
                                              have c31b0 : decide (x13_5 < t1009) = true := decide_eq_true c31
                                              clear c31
                                              by_cases c32 : x6_5.length < 17592186044416
                                              · rw [if_pos c32] at H
                                                have LMc32 := Aside0.mk c32
                                                clear c32
                                                obtain ⟨y1018, hy1018⟩ : ∃ y_ : List Int, y_ = (x6_5 ++ [(IntKind.u64.wrap (t1016))]) := ⟨_, rfl⟩
                                                replace H : (tidelineref05_Get.l1 k5 l0 a1 y1018 (wrap64 (ji18 + t1014)) t1009 (IntKind.u64.wrap (t1016)) (IntKind.u64.wrap (x13_5 + 1))) = some (r1, r2) := by first | (rw [hy1018]; with_reducible exact H) | (have H2_ := (Option.bind_some _ _).symm.trans H; rw [hy1018]; with_reducible exact H2_) | (have H2_ := (Option.bind_some _ _).symm.trans H; with_reducible exact H2_) | with_reducible exact H | (rw [hy1018]; exact H) | exact H
                                                have Ny1018 := Aside0.mk hy1018
                                                clear hy1018
                                                have H' := Aside0.mk H
                                                clear H
                                                go_wp2_with (first | ((with_reducible refine gate_builtin (b := .append) (xs := #[.tmp 92, .tmp 94]) rfl ?_); (try (refine gate_guard (by rfl) ?_; dsimp only)); at_builtin; refine Kd.R_append (Kd.int .u64) (w0 := w) w.heap.size rfl (.tmp 92) (.tmp 94) 149 84 (.int .u64 0) 8 rfl Try.underlying149 info84 rfl (by decide) (by omega) u6 x6_5 (IntKind.u64.wrap (t1016)) [.int .u64 (IntKind.u64.wrap (t1016))] (fun _ => True) (fun _ => False) rfl rfl ?aP (fun _ hk => hk.elim) ?aF ?aO ?aB ?aS ?aL ?_; (case aP => exact rfl); (case aB => exact (by repeat (first | (with_reducible first | exact HB.out | apply below_alloc | apply pw_below_drewN | apply below_drew1) | exact HB.out))); (case aF => exact (fun _ _ => trivial)); (case aO => exact (by (with_reducible repeat (first | apply Kd.R_alloc | apply Kd.R_drewN | apply Kd.R_drew)); exact HO_6.out)); (case aS => exact (below_size (by repeat (first | (with_reducible first | exact HB.out | apply below_alloc | apply pw_below_drewN | apply below_drew1) | exact HB.out)))); (case aL => have := LMc32.out; omega); intro v1019 w33 ho hb hg hat; rw [← Ny1018.out] at ho; have n0_ := Aside0.mk (hb); have n1_ := Aside0.mk (ho); clear HB; clear HO_6; have HB := n0_; have HO1020 := n1_; clear n0_ n1_; clear ho hb hg hat))
                                                go_roundg k5
                                                case measure => have := HJ2.out; have := HK2.out; have := HJ12.out; have := HJ23.out; have := HK5.out; omega
                                                case rel => exact ⟨(y1018), (IntKind.u64.wrap (x13_5 + 1)), (by first | rfl | (simp; done) | (simp [*]; done)), H', ⟨by have := HJ2.out; have := HK2.out; have := HJ12.out; have := HJ23.out; have := HK5.out; omega⟩, ⟨by (with_reducible repeat (first | apply Kd.R_alloc | apply Kd.R_drewN | apply Kd.R_drew)); exact HO1020.out⟩, ⟨by repeat (first | (with_reducible first | exact HB.out | apply below_alloc | apply pw_below_drewN | apply below_drew1) | exact HB.out)⟩⟩
                                              · rw [if_neg c32] at H
                                                exact absurd H (by simp)
                                            · rw [if_neg c31] at H
                                              have c31b0 : decide (x13_5 < t1009) = false := decide_eq_false c31
                                              clear c31
                                              have H' := Aside0.mk H
                                              clear H
                                              go_wp2
                                              go_roundg k5
                                              case measure => have := HJ2.out; have := HK2.out; have := HJ12.out; have := HJ23.out; have := HK5.out; omega
                                              case rel => exact ⟨(x6_5), ((wrap64 (ji18 + t1014))), (by first | rfl | (simp; done) | (simp only [← hji18] <;> (first | rfl | simp)) | (simp [*]; done)), H', ⟨by have := HJ2.out; have := HK2.out; have := HJ12.out; have := HJ23.out; have := HK5.out; omega⟩, ⟨by (with_reducible repeat (first | apply Kd.R_alloc | apply Kd.R_drewN | apply Kd.R_drew)); exact HO_6.out⟩, ⟨by repeat (first | (with_reducible first | exact HB.out | apply below_alloc | apply pw_below_drewN | apply below_drew1) | exact HB.out)⟩⟩
                                · rw [if_neg c22] at H
                                  have c22b0 : (t1015 == 0) = false := beq_eq_false_iff_ne.mpr c22
                                  have c22b1 : (t1015 != 0) = true := bne_iff_ne.mpr c22
                                  simp only [Option.some.injEq, Prod.mk.injEq] at H
                                  obtain ⟨rfl, rfl⟩ := H
                                  obtain ⟨i034, hi034, _, hsz34, _⟩ := info_parts info5
                                  obtain ⟨A34, hcut34, hA34, hC34⟩ := print_drop_of (P := Try.prog) (Value.int .u8) 0 22 5 .i64 Try.underlying22 hi034 hsz34 A0 c0 l0 (ji18) (of_decide_eq_true (by first | (with_reducible assumption) | assumption)) (of_decide_eq_true (by first | (with_reducible assumption) | assumption)) HC0.out
                                  have HR1012 := Aside0.mk (Kd.C_of_reads (h1 := fun _ => rfl) (hA34 _ (Kd.reads_of_C HR0.out)))
                                  have HC1012 := Aside0.mk hC34
                                  clear hA34 hC34 hi034 hsz34
                                  go_wp2_with (first | ((with_reducible refine gate_callee (f := 108) rfl ?_); refine goesL_ (some 61) rfl rfl Try.func108 (by kernel_rfl) rfl #[.slice A34 (l0.drop ((ji18) : Int).toNat).length (c0 - (ji18).toNat)] rfl (by (try simp only [List.map_toArray, List.map_cons, List.map_nil]); first | done | (rw [show (l0.drop ((ji18) : Int).toNat).length = (l0.length - (ji18).toNat) from List.length_drop] <;> rfl) | (simp only [hji18]; rfl) | rfl | (simp only [List.length_drop, List.length_take]; rfl)) ?_; (with_reducible refine (tidelineref02_Get.calls kj12 _ _ (l0.drop ((ji18) : Int).toNat) t1013 t1014 t1015 _ ?side1 ?side2 A21.out).mono ?_); (case side1 => repeat (first | exact (Kd.C_below HR1012.out HB.out) | (with_reducible refine Kd.C_alloc ?_ _) | (with_reducible refine Kd.C_drewN ?_ _) | (with_reducible refine Kd.C_drew ?_))); (case side2 => exact HC1012.out); rintro e w' ⟨rfl, ⟨nd, rfl⟩⟩; refine ⟨_, rfl, ?_⟩))
                                  go_ret2
                                  exact ⟨_, by first | rfl | (simp [errW_none, errW_some] <;> rfl) | (simp only [← hji18]; first | rfl | (simp [errW_none, errW_some] <;> rfl)) | (simp [*, errW_none, errW_some] <;> rfl), by first | exact Kd.R_nil _ _ _ _ _ | exact Kd.N_nil _ _ _ _ _ | exact Kd.V_nil _ _ _ _ _ | exact Kd.Q_nil _ _ _ _ _ | exact Kd.S_nil _ _ _ _ _, by repeat (first | (with_reducible first | exact HB.out | apply below_alloc | apply pw_below_drewN | apply below_drew1) | exact HB.out)⟩
                              · rw [if_neg c20] at H
                                exact absurd H (by simp)
                            · rw [if_neg c19] at H
                              exact absurd H (by simp)
                    · rw [if_neg c12] at H
                      have c12b0 : (t1011 == 0) = false := beq_eq_false_iff_ne.mpr c12
                      have c12b1 : (t1011 != 0) = true := bne_iff_ne.mpr c12
                      simp only [Option.some.injEq, Prod.mk.injEq] at H
                      obtain ⟨rfl, rfl⟩ := H
                      obtain ⟨Ao35, co35, eo35⟩ := Kd.R_slice HO_6.out
                      subst eo35
                      obtain ⟨i036, hi036, _, hsz36, _⟩ := info_parts info5
                      obtain ⟨A36, hcut36, hA36, hC36⟩ := print_drop_of (P := Try.prog) (Value.int .u8) 0 22 5 .i64 Try.underlying22 hi036 hsz36 A0 c0 l0 x7_2 (of_decide_eq_true (by first | (with_reducible assumption) | assumption)) (of_decide_eq_true (by first | (with_reducible assumption) | assumption)) HC0.out
                      have HR1008 := Aside0.mk (Kd.C_of_reads (h1 := fun _ => rfl) (hA36 _ (Kd.reads_of_C HR0.out)))
                      have HC1008 := Aside0.mk hC36
                      clear hA36 hC36 hi036 hsz36
                      go_wp2_with (first | ((with_reducible refine gate_callee (f := 108) rfl ?_); refine goesL_ (some 36) rfl rfl Try.func108 (by kernel_rfl) rfl #[.slice A36 (l0.drop (x7_2 : Int).toNat).length (c0 - x7_2.toNat)] rfl (by (try simp only [List.map_toArray, List.map_cons, List.map_nil]); first | done | (rw [show (l0.drop (x7_2 : Int).toNat).length = (l0.length - x7_2.toNat) from List.length_drop] <;> rfl) | rfl | (simp only [List.length_drop, List.length_take]; rfl)) ?_; (with_reducible refine (tidelineref02_Get.calls k2 _ _ (l0.drop (x7_2 : Int).toNat) t1009 t1010 t1011 _ ?side1 ?side2 A11.out).mono ?_); (case side1 => repeat (first | exact (Kd.C_below HR1008.out HB.out) | (with_reducible refine Kd.C_alloc ?_ _) | (with_reducible refine Kd.C_drewN ?_ _) | (with_reducible refine Kd.C_drew ?_))); (case side2 => exact HC1008.out); rintro e w' ⟨rfl, ⟨nd, rfl⟩⟩; refine ⟨_, rfl, ?_⟩))
                      go_ret2
                      exact ⟨_, by first | rfl | (simp [errW_none, errW_some] <;> rfl) | (simp [*, errW_none, errW_some] <;> rfl), by first | exact Kd.R_nil _ _ _ _ _ | exact Kd.N_nil _ _ _ _ _ | exact Kd.V_nil _ _ _ _ _ | exact Kd.Q_nil _ _ _ _ _ | exact Kd.S_nil _ _ _ _ _, by repeat (first | (with_reducible first | exact HB.out | apply below_alloc | apply pw_below_drewN | apply below_drew1) | exact HB.out)⟩
                  · rw [if_neg c10] at H
                    exact absurd H (by simp)
                · rw [if_neg c9] at H
                  exact absurd H (by simp)
            · rw [if_neg c6] at H
              have c6b0 : decide ((x6_2.length : Int) < a1) = false := decide_eq_false c6
              clear c6
              by_cases c37 : x7_2 = (l0.length : Int)
              · rw [if_pos c37] at H
                have c37b0 : (x7_2 == (l0.length : Int)) = true := beq_iff_eq.mpr c37
                have c37b1 : (x7_2 != (l0.length : Int)) = false := bne_eq_false_iff_eq.mpr c37
                clear c37
                have H' := Aside0.mk H
                clear H
                obtain ⟨Ao38, co38, eo38⟩ := Kd.R_slice HO_6.out
                subst eo38
                go_wp2
                go_loopg [14, 15, 16, 17] k2 (fun kq v14 v15 v16 v17 w' => ∃ (x14_3 : List Int) (x15_3 : Int) (x16_3 : Int) (x17_3 : Int), v15 = .int .u64 x15_3 ∧ v16 = .int .u64 x16_3 ∧ v17 = .int .i64 x17_3 ∧ Aside0 (tidelineref05_Get.l2 kq x6_2 x14_3 x15_3 x16_3 x17_3 = some (r1, r2)) ∧ Aside0 (kq ≤ k2) ∧ Aside0 (Kd.R (Kd.int .u64) 84 w' w.heap.size (fun _ => True) (.slice Ao38 x6_2.length co38) x6_2) ∧ Aside0 (Kd.R (Kd.int .i64) 2 w' w.heap.size (fun _ => True) v14 x14_3) ∧ Aside0 (Below w.heap.size w w'))
                case atStart => exact ⟨(([] : List Int)), (0), (0), (0), (by first | rfl | (simp; done) | (simp [*]; done)), (by first | rfl | (simp; done) | (simp [*]; done)), (by first | rfl | (simp; done) | (simp [*]; done)), H', ⟨Nat.le_refl _⟩, ⟨by (with_reducible repeat (first | apply Kd.R_alloc | apply Kd.R_drewN | apply Kd.R_drew)); exact HO_6.out⟩, ⟨by first | exact Kd.R_nil _ _ _ _ _ | exact Kd.N_nil _ _ _ _ _ | exact Kd.V_nil _ _ _ _ _ | exact Kd.Q_nil _ _ _ _ _ | exact Kd.S_nil _ _ _ _ _⟩, ⟨by repeat (first | (with_reducible first | exact HB.out | apply below_alloc | apply pw_below_drewN | apply below_drew1) | exact HB.out)⟩⟩
                case round =>
                  clear H'
                  try clear c1
                  try clear p1
                  try clear q1
                  try clear hx1
                  try clear c2
                  try clear p2
                  try clear c3
                  try clear c4
                  try clear c4b0
                  try clear c5
                  try clear c6
                  try clear c6b0
                  try clear p6
                  try clear c7
                  try clear c7b0
                  try clear c7b1
                  try clear c9
                  try clear c9b0
                  try clear c9b1
                  try clear c10
                  try clear c10b0
                  try clear c10b1
                  try clear p10
                  try clear q10
                  try clear hx10
                  try clear c12
                  try clear c12b0
                  try clear c12b1
                  try clear c13
                  try clear c14
                  try clear c16
                  try clear c16b0
                  try clear c16b1
                  try clear c17
                  try clear c19
                  try clear c19b0
                  try clear c19b1
                  try clear c20
                  try clear c20b0
                  try clear c20b1
                  try clear c22
                  try clear c22b0
                  try clear c22b1
                  try clear c26
                  try clear c26b0
                  try clear c26b1
                  try clear c28
                  try clear c28b0
                  try clear c29
                  try clear c29b0
                  try clear c30
                  try clear c31
                  try clear c31b0
                  try clear c32
                  try clear c37
                  try clear c37b0
                  try clear c37b1
                  try clear hx1017_0
                  try clear p1
                  try clear p10
                  try clear p1017
                  try clear p2
                  try clear p6
                  try clear q1
                  try clear q10
                  try clear q1017
                  obtain ⟨x14_3, x15_3, x16_3, x17_3, rfl, rfl, rfl, HA, HK3, HO_6, HO_14, HB⟩ := hrel
                  cases gk with
                  | zero => exact absurd HA.out (by simp [tidelineref05_Get.l2])
                  | succ k3 =>
                    have H := HA.out
                    clear HA
                    simp only [tidelineref05_Get.l2] at H
                    by_cases c39 : x17_3 < (x6_2.length : Int)
                    · rw [if_pos c39] at H
                      have c39b0 : decide (x17_3 < (x6_2.length : Int)) = true := decide_eq_true c39
                      clear c39
                      by_cases c40 : 0 ≤ x17_3
                      · rw [if_pos c40] at H
                        have c40b0 : decide (0 ≤ x17_3) = true := decide_eq_true c40
                        clear c40
                        by_cases c41 : x14_3.length < 17592186044416
                        · rw [if_pos c41] at H
                          have LMc41 := Aside0.mk c41
                          clear c41
                          obtain ⟨y1022, hy1022⟩ : ∃ y_ : List Int, y_ = (x14_3 ++ [wrap64 (IntKind.u64.wrap (x16_3 + (IntKind.u64.wrap (x15_3 + (rd x6_2 x17_3)))))]) := ⟨_, rfl⟩
                          replace H : (tidelineref05_Get.l2 k3 x6_2 y1022 (IntKind.u64.wrap (x15_3 + (rd x6_2 x17_3))) (IntKind.u64.wrap (x16_3 + (IntKind.u64.wrap (x15_3 + (rd x6_2 x17_3))))) (wrap64 (x17_3 + 1))) = some (r1, r2) := by first | (rw [hy1022]; with_reducible exact H) | (have H2_ := (Option.bind_some _ _).symm.trans H; rw [hy1022]; with_reducible exact H2_) | (have H2_ := (Option.bind_some _ _).symm.trans H; with_reducible exact H2_) | with_reducible exact H | (rw [hy1022]; exact H) | exact H
                          have Ny1022 := Aside0.mk hy1022
                          clear hy1022
                          have H' := Aside0.mk H
                          clear H
                          have p1021 : 0 ≤ (x17_3 : Int) := of_decide_eq_true (by first | (with_reducible assumption) | assumption)
                          have q1021 : x17_3 < (x6_2.length : Int) := of_decide_eq_true (by first | (with_reducible assumption) | assumption)
                          obtain ⟨ad1021, e1021, hx1021_0⟩ := Kd.at_int (Kd.R_reads' HO_6.out).2.2 x17_3 p1021 q1021
                          cases e1021
                          replace p1021 := eq_true p1021
                          replace q1021 := eq_true q1021
                          go_wp2_with (first | ((with_reducible refine gate_builtin (b := .append) (xs := #[.tmp 115, .tmp 118]) rfl ?_); (try (refine gate_guard (by rfl) ?_; dsimp only)); at_builtin; refine Kd.R_append (Kd.int .i64) (w0 := w) w.heap.size rfl (.tmp 115) (.tmp 118) 122 2 (.int .i64 0) 8 rfl Try.underlying122 info2 rfl (by decide) (by omega) u14 x14_3 (wrap64 (IntKind.u64.wrap (x16_3 + (IntKind.u64.wrap (x15_3 + (rd x6_2 x17_3)))))) [.int .i64 (wrap64 (IntKind.u64.wrap (x16_3 + (IntKind.u64.wrap (x15_3 + (rd x6_2 x17_3))))))] (fun _ => True) (fun _ => False) rfl rfl ?aP (fun _ hk => hk.elim) ?aF ?aO ?aB ?aS ?aL ?_; (case aP => exact rfl); (case aB => exact (by repeat (first | (with_reducible first | exact HB.out | apply below_alloc | apply pw_below_drewN | apply below_drew1) | exact HB.out))); (case aF => exact (fun _ _ => trivial)); (case aO => exact (by (with_reducible repeat (first | apply Kd.R_alloc | apply Kd.R_drewN | apply Kd.R_drew)); exact HO_14.out)); (case aS => exact (below_size (by repeat (first | (with_reducible first | exact HB.out | apply below_alloc | apply pw_below_drewN | apply below_drew1) | exact HB.out)))); (case aL => have := LMc41.out; omega); intro v1023 w42 ho hb hg hat; rw [← Ny1022.out] at ho; have n0_ := Aside0.mk (Kd.R_over' (by (with_reducible repeat (first | apply Kd.R_alloc | apply Kd.R_drewN | apply Kd.R_drew)); exact HO_6.out) (Kd.R_typed (by (with_reducible repeat (first | apply Kd.R_alloc | apply Kd.R_drewN | apply Kd.R_drew)); exact HO_14.out)) (by decide) hg); have n1_ := Aside0.mk (hb); have n2_ := Aside0.mk (ho); clear HO_6; clear HB; clear HO_14; have HO_6 := n0_; have HB := n1_; have HO1024 := n2_; clear n0_ n1_ n2_; clear ho hb hg hat))
                          go_roundg k3
                          case measure => have := HJ2.out; have := HK2.out; have := HK3.out; omega
                          case rel => exact ⟨(y1022), (IntKind.u64.wrap (x15_3 + (rd x6_2 x17_3))), (IntKind.u64.wrap (x16_3 + (IntKind.u64.wrap (x15_3 + (rd x6_2 x17_3))))), (wrap64 (x17_3 + 1)), (by first | rfl | (simp; done) | (simp [*]; done)), (by first | rfl | (simp; done) | (simp [*]; done)), (by first | rfl | (simp; done) | (simp [*]; done)), H', ⟨by have := HJ2.out; have := HK2.out; have := HK3.out; omega⟩, ⟨by (with_reducible repeat (first | apply Kd.R_alloc | apply Kd.R_drewN | apply Kd.R_drew)); exact HO_6.out⟩, ⟨by (with_reducible repeat (first | apply Kd.R_alloc | apply Kd.R_drewN | apply Kd.R_drew)); exact HO1024.out⟩, ⟨by repeat (first | (with_reducible first | exact HB.out | apply below_alloc | apply pw_below_drewN | apply below_drew1) | exact HB.out)⟩⟩
                        · rw [if_neg c41] at H
                          exact absurd H (by simp)
                      · rw [if_neg c40] at H
                        exact absurd H (by simp)
                    · rw [if_neg c39] at H
                      have c39b0 : decide (x17_3 < (x6_2.length : Int)) = false := decide_eq_false c39
                      clear c39
                      simp only [Option.some.injEq, Prod.mk.injEq] at H
                      obtain ⟨rfl, rfl⟩ := H
                      go_wp2
                      go_ret2
                      exact ⟨_, by first | rfl | (simp [errW_none, errW_some] <;> rfl) | (simp [*, errW_none, errW_some] <;> rfl), by (with_reducible repeat (first | apply Kd.R_alloc | apply Kd.R_drewN | apply Kd.R_drew)); exact HO_14.out, by repeat (first | (with_reducible first | exact HB.out | apply below_alloc | apply pw_below_drewN | apply below_drew1) | exact HB.out)⟩
              · rw [if_neg c37] at H
                have c37b0 : (x7_2 == (l0.length : Int)) = false := beq_eq_false_iff_ne.mpr c37
                have c37b1 : (x7_2 != (l0.length : Int)) = true := bne_iff_ne.mpr c37
                simp only [Option.some.injEq, Prod.mk.injEq] at H
                obtain ⟨rfl, rfl⟩ := H
                obtain ⟨Ao43, co43, eo43⟩ := Kd.R_slice HO_6.out
                subst eo43
                go_wp2
                go_ret2
                exact ⟨_, by first | rfl | (simp [errW_none, errW_some] <;> rfl) | (simp [*, errW_none, errW_some] <;> rfl), by first | exact Kd.R_nil _ _ _ _ _ | exact Kd.N_nil _ _ _ _ _ | exact Kd.V_nil _ _ _ _ _ | exact Kd.Q_nil _ _ _ _ _ | exact Kd.S_nil _ _ _ _ _, by repeat (first | (with_reducible first | exact HB.out | apply below_alloc | apply pw_below_drewN | apply below_drew1) | exact HB.out)⟩

end Go.Proofs.Ytlmcefhpnfoahaa.P
end

section
namespace Go.Proofs.Ytlmcefhpnfoahaa.P
open Go.RowKit Go.Proofs.YtlmcefhpnfoahaaW.PrintWords Go.Proofs.YtlmcefhpnfoahaaW.PrintLast Go.Proofs.YtlmcefhpnfoahaaW.PrintMore
attribute [local go_sem] max2_int min2_int max_two min_two max_three min_three max_four min_four   -- for this text's walks alone
set_option linter.unusedVariables false
set_option linter.unusedSimpArgs false

def tidelineref06_Which.l0 : Nat → List ByteArray → ByteArray → Int → Option (Int)
  | 0, _, _, _ => none
  | k + 1, x0, x1, x5 => if x5 < (x0.length : Int) then (if 0 ≤ x5 then (if (rdOf ByteArray.empty x0 x5).toList = x1.toList then (some x5) else (tidelineref06_Which.l0 k x0 x1 (wrap64 (x5 + 1)))) else (none)) else (some x5)
def tidelineref06_Which.f (k : Nat) (l0 : List ByteArray) (a1 : ByteArray) : Option (Int) := tidelineref06_Which.l0 k l0 a1 0
set_option maxHeartbeats 8000000 in
set_option maxRecDepth 100000 in
theorem tidelineref06_Which.calls (k : Nat) (A0 : Option Addr) (c0 : Nat) (l0 : List ByteArray) (a1 : ByteArray) (r : Int) (w : World) (hr0 : Kd.C Kd.string w A0 l0.length l0) (hc0 : l0.length ≤ c0) (h : tidelineref06_Which.f k l0 a1 = some r) :
    Calls Try.prog 142 #[.slice A0 l0.length c0, .string a1] w fun e w' => e = .returned (.int .i64 r) ∧ Drawn0 w w' := by
  have HR0 := Aside0.mk hr0
  have HC0 := Aside0.mk hc0
  clear hr0 hc0
  have H : (tidelineref06_Which.l0 k l0 a1 0) = some r := h
  clear h
  have H' := Aside0.mk H
  clear H
  go_enter Try.func142, Try.ntmps142
  go_wp2
  go_loopg [5] k (fun kq v5 w' => ∃ (x5_1 : Int), v5 = .int .i64 x5_1 ∧ Aside0 (tidelineref06_Which.l0 kq l0 a1 x5_1 = some r) ∧ Aside0 (kq ≤ k) ∧ Drawn0 w w')
  case atStart => exact ⟨(0), (by first | rfl | (simp; done) | (simp [*]; done)), H', ⟨Nat.le_refl _⟩, by repeat (first | exact Drawn0.refl _ | apply Drawn0.step)⟩
  case round =>
    clear H'
    try clear c1
    try clear p2
    obtain ⟨x5_1, rfl, HA, HK1, ⟨m1, rfl⟩⟩ := hrel
    cases gk with
    | zero => exact absurd HA.out (by simp [tidelineref06_Which.l0])
    | succ k1 =>
      have H := HA.out
      clear HA
      simp only [tidelineref06_Which.l0] at H
      by_cases c3 : x5_1 < (l0.length : Int)
      · rw [if_pos c3] at H
        have c3b0 : decide (x5_1 < (l0.length : Int)) = true := decide_eq_true c3
        clear c3
        by_cases c4 : 0 ≤ x5_1
        · rw [if_pos c4] at H
          have c4b0 : decide (0 ≤ x5_1) = true := decide_eq_true c4
          clear c4
          by_cases c5 : (rdOf ByteArray.empty l0 x5_1).toList = a1.toList
          · rw [if_pos c5] at H
            have c5b0 : ((rdOf ByteArray.empty l0 x5_1).toList == a1.toList) = true := beq_iff_eq.mpr c5
            have c5b1 : ((rdOf ByteArray.empty l0 x5_1).toList != a1.toList) = false := bne_eq_false_iff_eq.mpr c5
            clear c5
            obtain rfl := Option.some.inj H
            have p940 : 0 ≤ (x5_1 : Int) := of_decide_eq_true (by first | (with_reducible assumption) | assumption)
            have q940 : x5_1 < (l0.length : Int) := of_decide_eq_true (by first | (with_reducible assumption) | assumption)
            obtain ⟨ad940, e940, hx940_0⟩ := Kd.at_string HR0.out x5_1 p940 q940
            cases e940
            replace p940 := eq_true p940
            replace q940 := eq_true q940
            go_wp2
            go_ret
            exact ⟨by first | rfl | (simp; done) | (simp [*]; done), by repeat (first | exact Drawn0.refl _ | apply Drawn0.step)⟩
          · rw [if_neg c5] at H
            have c5b0 : ((rdOf ByteArray.empty l0 x5_1).toList == a1.toList) = false := beq_eq_false_iff_ne.mpr c5
            have c5b1 : ((rdOf ByteArray.empty l0 x5_1).toList != a1.toList) = true := bne_iff_ne.mpr c5
            have H' := Aside0.mk H
            clear H
            have p940 : 0 ≤ (x5_1 : Int) := of_decide_eq_true (by first | (with_reducible assumption) | assumption)
            have q940 : x5_1 < (l0.length : Int) := of_decide_eq_true (by first | (with_reducible assumption) | assumption)
            obtain ⟨ad940, e940, hx940_0⟩ := Kd.at_string HR0.out x5_1 p940 q940
            cases e940
            replace p940 := eq_true p940
            replace q940 := eq_true q940
            go_wp2
            go_roundg k1
            case measure => have := HK1.out; omega
            case rel => exact ⟨(wrap64 (x5_1 + 1)), (by first | rfl | (simp; done) | (simp [*]; done)), H', ⟨by have := HK1.out; omega⟩, by repeat (first | exact Drawn0.refl _ | apply Drawn0.step)⟩
        · rw [if_neg c4] at H
          exact absurd H (by simp)
      · rw [if_neg c3] at H
        have c3b0 : decide (x5_1 < (l0.length : Int)) = false := decide_eq_false c3
        clear c3
        obtain rfl := Option.some.inj H
        go_wp2
        go_ret
        exact ⟨by first | rfl | (simp; done) | (simp [*]; done), by repeat (first | exact Drawn0.refl _ | apply Drawn0.step)⟩

end Go.Proofs.Ytlmcefhpnfoahaa.P
end

section
namespace Go.Proofs.Ytlmcefhpnfoahaa.P
open Go.RowKit Go.Proofs.YtlmcefhpnfoahaaW.PrintWords Go.Proofs.YtlmcefhpnfoahaaW.PrintLast Go.Proofs.YtlmcefhpnfoahaaW.PrintMore
attribute [local go_sem] max2_int min2_int max_two min_two max_three min_three max_four min_four   -- for this text's walks alone
set_option linter.unusedVariables false
set_option linter.unusedSimpArgs false

def tidelineref06_Words.l0 : Nat → List (S39) → List ByteArray → Int → Option (List ByteArray)
  | 0, _, _, _ => none
  | k + 1, x0, x3, x4 => if x4 < (x0.length : Int) then (if 0 ≤ x4 then (if ((rd_T39 x0 x4).f0) = 3 then ((tidelineref06_Which.f k x3 ((rd_T39 x0 x4).f2)).bind fun t943 => (if t943 = (x3.length : Int) then (if x3.length < 8796093022208 then (tidelineref06_Words.l0 k x0 (x3 ++ [(rd_T39 x0 x4).f2]) (wrap64 (x4 + 1))) else (none)) else (tidelineref06_Words.l0 k x0 x3 (wrap64 (x4 + 1))))) else (tidelineref06_Words.l0 k x0 x3 (wrap64 (x4 + 1)))) else (none)) else (some x3)
def tidelineref06_Words.f (k : Nat) (l0 : List (S39)) : Option (List ByteArray) := tidelineref06_Words.l0 k l0 ([] : List ByteArray) 0
set_option maxHeartbeats 8000000 in
set_option maxRecDepth 100000 in
theorem tidelineref06_Words.calls (k : Nat) (A0 : Option Addr) (c0 : Nat) (l0 : List (S39)) (r : List ByteArray) (w : World) (hr0 : Kd.C k39 w A0 l0.length l0) (hc0 : l0.length ≤ c0) (h : tidelineref06_Words.f k l0 = some r) :
    Calls Try.prog 141 #[.slice A0 l0.length c0] w fun e w' => ∃ v0_ : Value, e = .returned (v0_) ∧ Kd.R Kd.string 9 w' w.heap.size (fun _ => True) v0_ r ∧ Below w.heap.size w w' := by
  have HR0 := Aside0.mk hr0
  have HC0 := Aside0.mk hc0
  clear hr0 hc0
  have HB := Aside0.mk (Below.refl w.heap.size w)
  have H : (tidelineref06_Words.l0 k l0 ([] : List ByteArray) 0) = some r := h
  clear h
  have H' := Aside0.mk H
  clear H
  go_enter Try.func141, Try.ntmps141
  go_wp2
  go_loopg [3, 4] k (fun kq v3 v4 w' => ∃ (x3_1 : List ByteArray) (x4_1 : Int), v4 = .int .i64 x4_1 ∧ Aside0 (tidelineref06_Words.l0 kq l0 x3_1 x4_1 = some r) ∧ Aside0 (kq ≤ k) ∧ Aside0 (Kd.R Kd.string 9 w' w.heap.size (fun _ => True) v3 x3_1) ∧ Aside0 (Below w.heap.size w w'))
  case atStart => exact ⟨(([] : List ByteArray)), (0), (by first | rfl | (simp; done) | (simp [*]; done)), H', ⟨Nat.le_refl _⟩, ⟨by first | exact Kd.R_nil _ _ _ _ _ | exact Kd.N_nil _ _ _ _ _ | exact Kd.V_nil _ _ _ _ _ | exact Kd.Q_nil _ _ _ _ _ | exact Kd.S_nil _ _ _ _ _⟩, ⟨by repeat (first | (with_reducible first | exact HB.out | apply below_alloc | apply pw_below_drewN | apply below_drew1) | exact HB.out)⟩⟩
  case round =>
    clear H'
    try clear c1
    obtain ⟨x3_1, x4_1, rfl, HA, HK1, HO_3, HB⟩ := hrel
    cases gk with
    | zero => exact absurd HA.out (by simp [tidelineref06_Words.l0])
    | succ k1 =>
      have H := HA.out
      clear HA
      simp only [tidelineref06_Words.l0] at H
      by_cases c2 : x4_1 < (l0.length : Int)
      · rw [if_pos c2] at H
        have c2b0 : decide (x4_1 < (l0.length : Int)) = true := decide_eq_true c2
        clear c2
        by_cases c3 : 0 ≤ x4_1
        · rw [if_pos c3] at H
          have c3b0 : decide (0 ≤ x4_1) = true := decide_eq_true c3
          clear c3
          by_cases c4 : ((rd_T39 l0 x4_1).f0) = 3
          · rw [if_pos c4] at H
            have c4b0 : (((rd_T39 l0 x4_1).f0) == 3) = true := beq_iff_eq.mpr c4
            have c4b1 : (((rd_T39 l0 x4_1).f0) != 3) = false := bne_eq_false_iff_eq.mpr c4
            clear c4
            replace H := Option.bind_eq_some_iff.mp H
            obtain ⟨t943, A50, H⟩ := H
            replace H : (if t943 = (x3_1.length : Int) then (if x3_1.length < 8796093022208 then (tidelineref06_Words.l0 k1 l0 (x3_1 ++ [(rd_T39 l0 x4_1).f2]) (wrap64 (x4_1 + 1))) else (none)) else (tidelineref06_Words.l0 k1 l0 x3_1 (wrap64 (x4_1 + 1)))) = some r := H
            have A5 := Aside0.mk A50
            clear A50
            by_cases c6 : t943 = (x3_1.length : Int)
            · rw [if_pos c6] at H
              have c6b0 : (t943 == (x3_1.length : Int)) = true := beq_iff_eq.mpr c6
              have c6b1 : (t943 != (x3_1.length : Int)) = false := bne_eq_false_iff_eq.mpr c6
              clear c6
              by_cases c7 : x3_1.length < 8796093022208
              · rw [if_pos c7] at H
                have LMc7 := Aside0.mk c7
                clear c7
                obtain ⟨y945, hy945⟩ : ∃ y_ : List ByteArray, y_ = (x3_1 ++ [(rd_T39 l0 x4_1).f2]) := ⟨_, rfl⟩
                replace H : (tidelineref06_Words.l0 k1 l0 y945 (wrap64 (x4_1 + 1))) = some r := by first | (rw [hy945]; with_reducible exact H) | (have H2_ := (Option.bind_some _ _).symm.trans H; rw [hy945]; with_reducible exact H2_) | (have H2_ := (Option.bind_some _ _).symm.trans H; with_reducible exact H2_) | with_reducible exact H | (rw [hy945]; exact H) | exact H
                have Ny945 := Aside0.mk hy945
                clear hy945
                have H' := Aside0.mk H
                clear H
                have p941 : 0 ≤ (x4_1 : Int) := of_decide_eq_true (by first | (with_reducible assumption) | assumption)
                have q941 : x4_1 < (l0.length : Int) := of_decide_eq_true (by first | (with_reducible assumption) | assumption)
                obtain ⟨ad941, e941, hx941_0, hx941_1, hx941_2⟩ := at_T39 HR0.out x4_1 p941 q941
                cases e941
                replace hx941_0 := (HB.out.cell (World.block_lt_of_cell? w _ hx941_0)).trans hx941_0
                replace hx941_1 := (HB.out.cell (World.block_lt_of_cell? w _ hx941_1)).trans hx941_1
                replace hx941_2 := (HB.out.cell (World.block_lt_of_cell? w _ hx941_2)).trans hx941_2
                replace p941 := eq_true p941
                replace q941 := eq_true q941
                have p942 : 0 ≤ (x4_1 : Int) := of_decide_eq_true (by first | (with_reducible assumption) | assumption)
                have q942 : x4_1 < (l0.length : Int) := of_decide_eq_true (by first | (with_reducible assumption) | assumption)
                obtain ⟨ad942, e942, hx942_0, hx942_1, hx942_2⟩ := at_T39 HR0.out x4_1 p942 q942
                obtain rfl : ad941 = ad942 := (by injection e942)
                replace hx942_0 := (HB.out.cell (World.block_lt_of_cell? w _ hx942_0)).trans hx942_0
                replace hx942_1 := (HB.out.cell (World.block_lt_of_cell? w _ hx942_1)).trans hx942_1
                replace hx942_2 := (HB.out.cell (World.block_lt_of_cell? w _ hx942_2)).trans hx942_2
                replace p942 := eq_true p942
                replace q942 := eq_true q942
                obtain ⟨Ao8, co8, eo8⟩ := Kd.R_slice HO_3.out
                subst eo8
                go_wp2_with (first | (go_at_call 142; (with_reducible refine (tidelineref06_Which.calls k1 _ _ x3_1 ((rd_T39 l0 x4_1).f2) t943 _ ?side1 ?side2 A5.out).mono ?_); (case side1 => repeat (first | exact (Kd.R_reads' HO_3.out).2.2 | (with_reducible refine Kd.C_alloc ?_ _) | (with_reducible refine Kd.C_drewN ?_ _) | (with_reducible refine Kd.C_drew ?_))); (case side2 => exact (Kd.R_reads' HO_3.out).2.1); rintro e w' ⟨rfl, ⟨nd, rfl⟩⟩; have p944 : 0 ≤ (x4_1 : Int) := of_decide_eq_true (by first | (with_reducible assumption) | assumption); have q944 : x4_1 < (l0.length : Int) := of_decide_eq_true (by first | (with_reducible assumption) | assumption); obtain ⟨ad944, e944, hx944_0, hx944_1, hx944_2⟩ := at_T39 HR0.out x4_1 p944 q944; obtain rfl : ad941 = ad944 := (by injection e944); replace hx944_0 := (HB.out.cell (World.block_lt_of_cell? w _ hx944_0)).trans hx944_0; replace hx944_1 := (HB.out.cell (World.block_lt_of_cell? w _ hx944_1)).trans hx944_1; replace hx944_2 := (HB.out.cell (World.block_lt_of_cell? w _ hx944_2)).trans hx944_2; replace p944 := eq_true p944; replace q944 := eq_true q944) | ((with_reducible refine gate_builtin (b := .append) (xs := #[.tmp 29, .tmp 35]) rfl ?_); (try (refine gate_guard (by rfl) ?_; dsimp only)); at_builtin; refine Kd.R_append Kd.string (w0 := w) w.heap.size rfl (.tmp 29) (.tmp 35) 151 9 (.string ⟨#[]⟩) 16 rfl Try.underlying151 info9 rfl (by decide) (by omega) (.slice Ao8 x3_1.length co8) x3_1 ((rd_T39 l0 x4_1).f2) [.string ((rd_T39 l0 x4_1).f2)] (fun _ => True) (fun _ => False) rfl rfl ?aP (fun _ hk => hk.elim) ?aF ?aO ?aB ?aS ?aL ?_; (case aP => exact rfl); (case aB => exact (by repeat (first | (with_reducible first | exact HB.out | apply below_alloc | apply pw_below_drewN | apply below_drew1) | exact HB.out))); (case aF => exact (fun _ _ => trivial)); (case aO => exact (by (with_reducible repeat (first | apply Kd.R_alloc | apply Kd.R_drewN | apply Kd.R_drew)); exact HO_3.out)); (case aS => exact (below_size (by repeat (first | (with_reducible first | exact HB.out | apply below_alloc | apply pw_below_drewN | apply below_drew1) | exact HB.out)))); (case aL => have := LMc7.out; omega); intro v946 w9 ho hb hg hat; rw [← Ny945.out] at ho; have n0_ := Aside0.mk (hb); have n1_ := Aside0.mk (ho); clear HB; clear HO_3; have HB := n0_; have HO947 := n1_; clear n0_ n1_; clear ho hb hg hat))
                go_roundg k1
                case measure => have := HK1.out; omega
                case rel => exact ⟨(y945), (wrap64 (x4_1 + 1)), (by first | rfl | (simp; done) | (simp [*]; done)), H', ⟨by have := HK1.out; omega⟩, ⟨by (with_reducible repeat (first | apply Kd.R_alloc | apply Kd.R_drewN | apply Kd.R_drew)); exact HO947.out⟩, ⟨by repeat (first | (with_reducible first | exact HB.out | apply below_alloc | apply pw_below_drewN | apply below_drew1) | exact HB.out)⟩⟩
              · rw [if_neg c7] at H
                exact absurd H (by simp)
            · rw [if_neg c6] at H
              have c6b0 : (t943 == (x3_1.length : Int)) = false := beq_eq_false_iff_ne.mpr c6
              have c6b1 : (t943 != (x3_1.length : Int)) = true := bne_iff_ne.mpr c6
              have H' := Aside0.mk H
              clear H
              have p941 : 0 ≤ (x4_1 : Int) := of_decide_eq_true (by first | (with_reducible assumption) | assumption)
              have q941 : x4_1 < (l0.length : Int) := of_decide_eq_true (by first | (with_reducible assumption) | assumption)
              obtain ⟨ad941, e941, hx941_0, hx941_1, hx941_2⟩ := at_T39 HR0.out x4_1 p941 q941
              cases e941
              replace hx941_0 := (HB.out.cell (World.block_lt_of_cell? w _ hx941_0)).trans hx941_0
              replace hx941_1 := (HB.out.cell (World.block_lt_of_cell? w _ hx941_1)).trans hx941_1
              replace hx941_2 := (HB.out.cell (World.block_lt_of_cell? w _ hx941_2)).trans hx941_2
              replace p941 := eq_true p941
              replace q941 := eq_true q941
              have p942 : 0 ≤ (x4_1 : Int) := of_decide_eq_true (by first | (with_reducible assumption) | assumption)
              have q942 : x4_1 < (l0.length : Int) := of_decide_eq_true (by first | (with_reducible assumption) | assumption)
              obtain ⟨ad942, e942, hx942_0, hx942_1, hx942_2⟩ := at_T39 HR0.out x4_1 p942 q942
              obtain rfl : ad941 = ad942 := (by injection e942)
              replace hx942_0 := (HB.out.cell (World.block_lt_of_cell? w _ hx942_0)).trans hx942_0
              replace hx942_1 := (HB.out.cell (World.block_lt_of_cell? w _ hx942_1)).trans hx942_1
              replace hx942_2 := (HB.out.cell (World.block_lt_of_cell? w _ hx942_2)).trans hx942_2
              replace p942 := eq_true p942
              replace q942 := eq_true q942
              obtain ⟨Ao10, co10, eo10⟩ := Kd.R_slice HO_3.out
              subst eo10
              go_wp2_with (first | (go_at_call 142; (with_reducible refine (tidelineref06_Which.calls k1 _ _ x3_1 ((rd_T39 l0 x4_1).f2) t943 _ ?side1 ?side2 A5.out).mono ?_); (case side1 => repeat (first | exact (Kd.R_reads' HO_3.out).2.2 | (with_reducible refine Kd.C_alloc ?_ _) | (with_reducible refine Kd.C_drewN ?_ _) | (with_reducible refine Kd.C_drew ?_))); (case side2 => exact (Kd.R_reads' HO_3.out).2.1); rintro e w' ⟨rfl, ⟨nd, rfl⟩⟩))
              go_roundg k1
              case measure => have := HK1.out; omega
              case rel => exact ⟨(x3_1), (wrap64 (x4_1 + 1)), (by first | rfl | (simp; done) | (simp [*]; done)), H', ⟨by have := HK1.out; omega⟩, ⟨by (with_reducible repeat (first | apply Kd.R_alloc | apply Kd.R_drewN | apply Kd.R_drew)); exact HO_3.out⟩, ⟨by repeat (first | (with_reducible first | exact HB.out | apply below_alloc | apply pw_below_drewN | apply below_drew1) | exact HB.out)⟩⟩
          · rw [if_neg c4] at H
            have c4b0 : (((rd_T39 l0 x4_1).f0) == 3) = false := beq_eq_false_iff_ne.mpr c4
            have c4b1 : (((rd_T39 l0 x4_1).f0) != 3) = true := bne_iff_ne.mpr c4
            have H' := Aside0.mk H
            clear H
            have p941 : 0 ≤ (x4_1 : Int) := of_decide_eq_true (by first | (with_reducible assumption) | assumption)
            have q941 : x4_1 < (l0.length : Int) := of_decide_eq_true (by first | (with_reducible assumption) | assumption)
            obtain ⟨ad941, e941, hx941_0, hx941_1, hx941_2⟩ := at_T39 HR0.out x4_1 p941 q941
            cases e941
            replace hx941_0 := (HB.out.cell (World.block_lt_of_cell? w _ hx941_0)).trans hx941_0
            replace hx941_1 := (HB.out.cell (World.block_lt_of_cell? w _ hx941_1)).trans hx941_1
            replace hx941_2 := (HB.out.cell (World.block_lt_of_cell? w _ hx941_2)).trans hx941_2
            replace p941 := eq_true p941
            replace q941 := eq_true q941
            go_wp2
            go_roundg k1
            case measure => have := HK1.out; omega
            case rel => exact ⟨(x3_1), (wrap64 (x4_1 + 1)), (by first | rfl | (simp; done) | (simp [*]; done)), H', ⟨by have := HK1.out; omega⟩, ⟨by (with_reducible repeat (first | apply Kd.R_alloc | apply Kd.R_drewN | apply Kd.R_drew)); exact HO_3.out⟩, ⟨by repeat (first | (with_reducible first | exact HB.out | apply below_alloc | apply pw_below_drewN | apply below_drew1) | exact HB.out)⟩⟩
        · rw [if_neg c3] at H
          exact absurd H (by simp)
      · rw [if_neg c2] at H
        have c2b0 : decide (x4_1 < (l0.length : Int)) = false := decide_eq_false c2
        clear c2
        obtain rfl := Option.some.inj H
        go_wp2
        go_ret
        exact ⟨_, by first | rfl | (simp [errW_none, errW_some] <;> rfl) | (simp [*, errW_none, errW_some] <;> rfl), by (with_reducible repeat (first | apply Kd.R_alloc | apply Kd.R_drewN | apply Kd.R_drew)); exact HO_3.out, by repeat (first | (with_reducible first | exact HB.out | apply below_alloc | apply pw_below_drewN | apply below_drew1) | exact HB.out)⟩

end Go.Proofs.Ytlmcefhpnfoahaa.P
end

section
namespace Go.Proofs.Ytlmcefhpnfoahaa.P
open Go.RowKit Go.Proofs.YtlmcefhpnfoahaaW.PrintWords Go.Proofs.YtlmcefhpnfoahaaW.PrintLast Go.Proofs.YtlmcefhpnfoahaaW.PrintMore
attribute [local go_sem] max2_int min2_int max_two min_two max_three min_three max_four min_four   -- for this text's walks alone
set_option linter.unusedVariables false
set_option linter.unusedSimpArgs false

mutual
def tidelineref06_read.l0 : Nat → List Int → Int → Int → Int → List ByteArray → Int → Option ((List (S39)) × Int)
  | 0, _, _, _, _, _, _ => none
  | k + 1, x0, x1, x6, x7, x9, x10 => if x10 < x6 then (if 0 ≤ x7 then (if x7 ≤ (x0.length : Int) then ((tidelineref02_Get.f k (x0.drop (x7 : Int).toNat)).bind fun bt1076 => (if bt1076.2.2 = 0 then (if bt1076.1 > (IntKind.u64.wrap (wrap64 ((wrap64 ((x0.length : Int) - x7)) - bt1076.2.1))) then (some (([] : List (S39)), 20)) else (if 0 ≤ (wrap64 (x7 + bt1076.2.1)) then (if (wrap64 (x7 + bt1076.2.1)) ≤ (wrap64 ((wrap64 (x7 + bt1076.2.1)) + (wrap64 (bt1076.1)))) then (if (wrap64 ((wrap64 (x7 + bt1076.2.1)) + (wrap64 (bt1076.1)))) ≤ (x0.length : Int) then (if x9.length < 8796093022208 then (tidelineref06_read.l0 k x0 x1 x6 (wrap64 ((wrap64 (x7 + bt1076.2.1)) + (wrap64 (bt1076.1)))) (x9 ++ [strOfNums ((x0.take ((wrap64 ((wrap64 (x7 + bt1076.2.1)) + (wrap64 (bt1076.1)))) : Int).toNat).drop ((wrap64 (x7 + bt1076.2.1)) : Int).toNat)]) (IntKind.u64.wrap (x10 + 1))) else (none)) else (none)) else (none)) else (none))) else (some (([] : List (S39)), bt1076.2.2)))) else (none)) else (none)) else (tidelineref06_read.l1 k x0 x1 x6 x7 x9 ([] : List (S39)) 0)
def tidelineref06_read.l1 : Nat → List Int → Int → Int → Int → List ByteArray → List (S39) → Int → Option ((List (S39)) × Int)
  | 0, _, _, _, _, _, _, _ => none
  | k + 1, x0, x1, x6, x7, x9, x14, x15 => if x15 < x1 then (if 0 ≤ x7 then (if x7 ≤ (x0.length : Int) then ((tidelineref02_Get.f k (x0.drop (x7 : Int).toNat)).bind fun bt1084 => (if bt1084.2.2 = 0 then (if bt1084.1 ≥ x6 then (some (([] : List (S39)), 21)) else (if 0 ≤ bt1084.1 then (if bt1084.1 < (x9.length : Int) then (if x14.length < 4398046511104 then (tidelineref06_read.l1 k x0 x1 x6 (wrap64 (x7 + bt1084.2.1)) x9 (x14 ++ [(⟨3, 0, rdOf ByteArray.empty x9 bt1084.1⟩ : S39)]) (wrap64 (x15 + 1))) else (none)) else (none)) else (none))) else (some (([] : List (S39)), bt1084.2.2)))) else (none)) else (none)) else ((tidelineref06_Words.f k x14).bind fun t1091 => (if x7 = (x0.length : Int) then (tidelineref06_read.j2 k x9 x14 t1091 ((t1091.length : Int) != (x9.length : Int))) else (tidelineref06_read.j2 k x9 x14 t1091 true)))
def tidelineref06_read.j2 : Nat → List ByteArray → List (S39) → List ByteArray → Bool → Option ((List (S39)) × Int)
  | 0, _, _, _, _ => none
  | k + 1, x9, x14, x19, x122 => if x122 = true then (some (([] : List (S39)), 21)) else (tidelineref06_read.l2 k x9 x14 x19 0)
def tidelineref06_read.l2 : Nat → List ByteArray → List (S39) → List ByteArray → Int → Option ((List (S39)) × Int)
  | 0, _, _, _, _ => none
  | k + 1, x9, x14, x19, x20 => if x20 < (x9.length : Int) then (if 0 ≤ x20 then (if x20 < (x19.length : Int) then (if (rdOf ByteArray.empty x19 x20).toList = (rdOf ByteArray.empty x9 x20).toList then (tidelineref06_read.l2 k x9 x14 x19 (wrap64 (x20 + 1))) else (some (([] : List (S39)), 21))) else (none)) else (none)) else (some (x14, 0))
end
def tidelineref06_read.f (k : Nat) (l0 : List Int) (a1 : Int) : Option ((List (S39)) × Int) := (tidelineref02_Get.f k l0).bind fun bt1072 => (if bt1072.2.2 = 0 then (if bt1072.1 > (IntKind.u64.wrap (a1)) then (some (([] : List (S39)), 21)) else (tidelineref06_read.l0 k l0 a1 bt1072.1 bt1072.2.1 ([] : List ByteArray) 0)) else (some (([] : List (S39)), bt1072.2.2)))
set_option maxHeartbeats 8000000 in
set_option maxRecDepth 100000 in
theorem tidelineref06_read.calls (k : Nat) (A0 : Option Addr) (c0 : Nat) (l0 : List Int) (a1 : Int) (r1 : List (S39)) (r2 : Int) (w : World) (hr0 : Kd.C (Kd.int .u8) w A0 l0.length l0) (hc0 : l0.length ≤ c0) (h : tidelineref06_read.f k l0 a1 = some (r1, r2)) :
    Calls Try.prog 146 #[.slice A0 l0.length c0, .int .i64 a1] w fun e w' => ∃ v0_ : Value, e = .returned (.tuple #[v0_, .int .i64 r2]) ∧ Kd.R k39 39 w' w.heap.size (fun _ => True) v0_ r1 ∧ Below w.heap.size w w' := by
  have hu39 := Try.underlying39
  have HR0 := Aside0.mk hr0
  have HC0 := Aside0.mk hc0
  clear hr0 hc0
  have HB := Aside0.mk (Below.refl w.heap.size w)
  have H : ((tidelineref02_Get.f k l0).bind fun bt1072 => (if bt1072.2.2 = 0 then (if bt1072.1 > (IntKind.u64.wrap (a1)) then (some (([] : List (S39)), 21)) else (tidelineref06_read.l0 k l0 a1 bt1072.1 bt1072.2.1 ([] : List ByteArray) 0)) else (some (([] : List (S39)), bt1072.2.2)))) = some (r1, r2) := h
  clear h
  replace H := Option.bind_eq_some_iff.mp H
  obtain ⟨⟨t1072, t1073, t1074⟩, A30, H⟩ := H
  replace H : (if t1074 = 0 then (if t1072 > (IntKind.u64.wrap (a1)) then (some (([] : List (S39)), 21)) else (tidelineref06_read.l0 k l0 a1 t1072 t1073 ([] : List ByteArray) 0)) else (some (([] : List (S39)), t1074))) = some (r1, r2) := H
  have A3 := Aside0.mk A30
  clear A30
  by_cases c4 : t1074 = 0
  · rw [if_pos c4] at H
    have c4b0 : (t1074 == 0) = true := beq_iff_eq.mpr c4
    have c4b1 : (t1074 != 0) = false := bne_eq_false_iff_eq.mpr c4
    clear c4
    by_cases c5 : t1072 > (IntKind.u64.wrap (a1))
    · rw [if_pos c5] at H
      have c5b0 : decide ((IntKind.u64.wrap (a1)) < t1072) = true := decide_eq_true c5
      clear c5
      simp only [Option.some.injEq, Prod.mk.injEq] at H
      obtain ⟨rfl, rfl⟩ := H
      go_enter Try.func146, Try.ntmps146
      go_wp2_with (first | (go_at_call 108; (with_reducible refine (tidelineref02_Get.calls k _ _ l0 t1072 t1073 t1074 _ ?side1 ?side2 A3.out).mono ?_); (case side1 => repeat (first | exact HR0.out | (with_reducible refine Kd.C_alloc ?_ _) | (with_reducible refine Kd.C_drewN ?_ _) | (with_reducible refine Kd.C_drew ?_))); (case side2 => exact HC0.out); rintro e w' ⟨rfl, ⟨nd, rfl⟩⟩; (try first | exact ⟨rfl, _, World.drewN_drewN _ _ _⟩ | exact ⟨rfl, _, Eq.trans (World.drewN_drewN _ _ _) (congrArg (World.drewN _) (Nat.add_assoc _ _ _))⟩)))
      repeat (go_quiet (first | (go_at_call 108; (with_reducible refine (tidelineref02_Get.calls k _ _ l0 t1072 t1073 t1074 _ ?side1 ?side2 A3.out).mono ?_); (case side1 => repeat (first | exact HR0.out | (with_reducible refine Kd.C_alloc ?_ _) | (with_reducible refine Kd.C_drewN ?_ _) | (with_reducible refine Kd.C_drew ?_))); (case side2 => exact HC0.out); rintro e w' ⟨rfl, ⟨nd, rfl⟩⟩; (try first | exact ⟨rfl, _, World.drewN_drewN _ _ _⟩ | exact ⟨rfl, _, Eq.trans (World.drewN_drewN _ _ _) (congrArg (World.drewN _) (Nat.add_assoc _ _ _))⟩))); try go_wp2_with (first | (go_at_call 108; (with_reducible refine (tidelineref02_Get.calls k _ _ l0 t1072 t1073 t1074 _ ?side1 ?side2 A3.out).mono ?_); (case side1 => repeat (first | exact HR0.out | (with_reducible refine Kd.C_alloc ?_ _) | (with_reducible refine Kd.C_drewN ?_ _) | (with_reducible refine Kd.C_drew ?_))); (case side2 => exact HC0.out); rintro e w' ⟨rfl, ⟨nd, rfl⟩⟩; (try first | exact ⟨rfl, _, World.drewN_drewN _ _ _⟩ | exact ⟨rfl, _, Eq.trans (World.drewN_drewN _ _ _) (congrArg (World.drewN _) (Nat.add_assoc _ _ _))⟩))))
      go_ret2
      exact ⟨_, by first | rfl | (simp [errW_none, errW_some] <;> rfl) | (simp [*, errW_none, errW_some] <;> rfl), by first | exact Kd.R_nil _ _ _ _ _ | exact Kd.N_nil _ _ _ _ _ | exact Kd.V_nil _ _ _ _ _ | exact Kd.Q_nil _ _ _ _ _ | exact Kd.S_nil _ _ _ _ _, by repeat (first | (with_reducible first | exact HB.out | apply below_alloc | apply pw_below_drewN | apply below_drew1) | exact HB.out)⟩
    · rw [if_neg c5] at H
      have c5b0 : decide ((IntKind.u64.wrap (a1)) < t1072) = false := decide_eq_false c5
      clear c5
      have H' := Aside0.mk H
      clear H
      go_enter Try.func146, Try.ntmps146
      go_wp2_with (first | (go_at_call 108; (with_reducible refine (tidelineref02_Get.calls k _ _ l0 t1072 t1073 t1074 _ ?side1 ?side2 A3.out).mono ?_); (case side1 => repeat (first | exact HR0.out | (with_reducible refine Kd.C_alloc ?_ _) | (with_reducible refine Kd.C_drewN ?_ _) | (with_reducible refine Kd.C_drew ?_))); (case side2 => exact HC0.out); rintro e w' ⟨rfl, ⟨nd, rfl⟩⟩; (try first | exact ⟨rfl, _, World.drewN_drewN _ _ _⟩ | exact ⟨rfl, _, Eq.trans (World.drewN_drewN _ _ _) (congrArg (World.drewN _) (Nat.add_assoc _ _ _))⟩)))
      repeat (go_quiet (first | (go_at_call 108; (with_reducible refine (tidelineref02_Get.calls k _ _ l0 t1072 t1073 t1074 _ ?side1 ?side2 A3.out).mono ?_); (case side1 => repeat (first | exact HR0.out | (with_reducible refine Kd.C_alloc ?_ _) | (with_reducible refine Kd.C_drewN ?_ _) | (with_reducible refine Kd.C_drew ?_))); (case side2 => exact HC0.out); rintro e w' ⟨rfl, ⟨nd, rfl⟩⟩; (try first | exact ⟨rfl, _, World.drewN_drewN _ _ _⟩ | exact ⟨rfl, _, Eq.trans (World.drewN_drewN _ _ _) (congrArg (World.drewN _) (Nat.add_assoc _ _ _))⟩))); try go_wp2_with (first | (go_at_call 108; (with_reducible refine (tidelineref02_Get.calls k _ _ l0 t1072 t1073 t1074 _ ?side1 ?side2 A3.out).mono ?_); (case side1 => repeat (first | exact HR0.out | (with_reducible refine Kd.C_alloc ?_ _) | (with_reducible refine Kd.C_drewN ?_ _) | (with_reducible refine Kd.C_drew ?_))); (case side2 => exact HC0.out); rintro e w' ⟨rfl, ⟨nd, rfl⟩⟩; (try first | exact ⟨rfl, _, World.drewN_drewN _ _ _⟩ | exact ⟨rfl, _, Eq.trans (World.drewN_drewN _ _ _) (congrArg (World.drewN _) (Nat.add_assoc _ _ _))⟩))))
      go_loopg [7, 9, 10] k (fun kq v7 v9 v10 w' => ∃ (x7_1 : Int) (x9_1 : List ByteArray) (x10_1 : Int), v7 = .int .i64 x7_1 ∧ v10 = .int .u64 x10_1 ∧ Aside0 (tidelineref06_read.l0 kq l0 a1 t1072 x7_1 x9_1 x10_1 = some (r1, r2)) ∧ Aside0 (kq ≤ k) ∧ Aside0 (Kd.R Kd.string 9 w' w.heap.size (fun _ => True) v9 x9_1) ∧ Aside0 (Below w.heap.size w w'))
      case atStart => exact ⟨(t1073), (([] : List ByteArray)), (0), (by first | rfl | (simp; done) | (simp [*]; done)), (by first | rfl | (simp; done) | (simp [*]; done)), H', ⟨Nat.le_refl _⟩, ⟨by first | exact Kd.R_nil _ _ _ _ _ | exact Kd.N_nil _ _ _ _ _ | exact Kd.V_nil _ _ _ _ _ | exact Kd.Q_nil _ _ _ _ _ | exact Kd.S_nil _ _ _ _ _⟩, ⟨by repeat (first | (with_reducible first | exact HB.out | apply below_alloc | apply pw_below_drewN | apply below_drew1) | exact HB.out)⟩⟩
      case round =>
        clear H'
        try clear c1
        try clear p2
        try clear c4
        try clear c4b0
        try clear c4b1
        try clear c5
        try clear c5b0
        obtain ⟨x7_1, x9_1, x10_1, rfl, rfl, HA, HK1, HO_9, HB⟩ := hrel
        cases gk with
        | zero => exact absurd HA.out (by simp [tidelineref06_read.l0])
        | succ k1 =>
          have H := HA.out
          clear HA
          simp only [tidelineref06_read.l0] at H
          by_cases c6 : x10_1 < t1072
          · rw [if_pos c6] at H
            have c6b0 : decide (x10_1 < t1072) = true := decide_eq_true c6
            clear c6
            by_cases c7 : 0 ≤ x7_1
            · rw [if_pos c7] at H
              have c7b0 := eq_true c7
              have c7b1 : decide (0 ≤ x7_1) = true := decide_eq_true c7
              clear c7
              by_cases c8 : x7_1 ≤ (l0.length : Int)
              · rw [if_pos c8] at H
                have c8b0 := eq_true c8
                have c8b1 : decide (x7_1 ≤ (l0.length : Int)) = true := decide_eq_true c8
                clear c8
                replace H := Option.bind_eq_some_iff.mp H
                obtain ⟨⟨t1076, t1077, t1078⟩, A90, H⟩ := H
                replace H : (if t1078 = 0 then (if t1076 > (IntKind.u64.wrap (wrap64 ((wrap64 ((l0.length : Int) - x7_1)) - t1077))) then (some (([] : List (S39)), 20)) else (if 0 ≤ (wrap64 (x7_1 + t1077)) then (if (wrap64 (x7_1 + t1077)) ≤ (wrap64 ((wrap64 (x7_1 + t1077)) + (wrap64 (t1076)))) then (if (wrap64 ((wrap64 (x7_1 + t1077)) + (wrap64 (t1076)))) ≤ (l0.length : Int) then (if x9_1.length < 8796093022208 then (tidelineref06_read.l0 k1 l0 a1 t1072 (wrap64 ((wrap64 (x7_1 + t1077)) + (wrap64 (t1076)))) (x9_1 ++ [strOfNums ((l0.take ((wrap64 ((wrap64 (x7_1 + t1077)) + (wrap64 (t1076)))) : Int).toNat).drop ((wrap64 (x7_1 + t1077)) : Int).toNat)]) (IntKind.u64.wrap (x10_1 + 1))) else (none)) else (none)) else (none)) else (none))) else (some (([] : List (S39)), t1078))) = some (r1, r2) := H
                have A9 := Aside0.mk A90
                clear A90
                by_cases c10 : t1078 = 0
                · rw [if_pos c10] at H
                  have c10b0 : (t1078 == 0) = true := beq_iff_eq.mpr c10
                  have c10b1 : (t1078 != 0) = false := bne_eq_false_iff_eq.mpr c10
                  clear c10
                  by_cases c11 : t1076 > (IntKind.u64.wrap (wrap64 ((wrap64 ((l0.length : Int) - x7_1)) - t1077)))
                  · rw [if_pos c11] at H
                    have c11b0 : decide ((IntKind.u64.wrap (wrap64 ((wrap64 ((l0.length : Int) - x7_1)) - t1077))) < t1076) = true := decide_eq_true c11
                    clear c11
                    simp only [Option.some.injEq, Prod.mk.injEq] at H
                    obtain ⟨rfl, rfl⟩ := H
                    obtain ⟨i012, hi012, _, hsz12, _⟩ := info_parts info5
                    obtain ⟨A12, hcut12, hA12, hC12⟩ := print_drop_of (P := Try.prog) (Value.int .u8) 0 22 5 .i64 Try.underlying22 hi012 hsz12 A0 c0 l0 x7_1 (of_decide_eq_true (by first | (with_reducible assumption) | assumption)) (of_decide_eq_true (by first | (with_reducible assumption) | assumption)) HC0.out
                    have HR1075 := Aside0.mk (Kd.C_of_reads (h1 := fun _ => rfl) (hA12 _ (Kd.reads_of_C HR0.out)))
                    have HC1075 := Aside0.mk hC12
                    clear hA12 hC12 hi012 hsz12
                    obtain ⟨D_, hD_⟩ : ∃ D_ : List Int, D_ = l0.drop (x7_1 : Int).toNat := ⟨_, rfl⟩
                    rw [← hD_] at hcut12 HR1075 HC1075 A9
                    clear hD_
                    go_wp2_with (first | (go_at_call 108; (with_reducible refine (tidelineref02_Get.calls k1 _ _ D_ t1076 t1077 t1078 _ ?side1 ?side2 A9.out).mono ?_); (case side1 => repeat (first | exact (Kd.C_below HR1075.out HB.out) | (with_reducible refine Kd.C_alloc ?_ _) | (with_reducible refine Kd.C_drewN ?_ _) | (with_reducible refine Kd.C_drew ?_))); (case side2 => exact HC1075.out); rintro e w' ⟨rfl, ⟨nd, rfl⟩⟩; (try first | exact ⟨rfl, _, World.drewN_drewN _ _ _⟩ | exact ⟨rfl, _, Eq.trans (World.drewN_drewN _ _ _) (congrArg (World.drewN _) (Nat.add_assoc _ _ _))⟩)))
                    repeat (go_quiet (first | (go_at_call 108; (with_reducible refine (tidelineref02_Get.calls k1 _ _ D_ t1076 t1077 t1078 _ ?side1 ?side2 A9.out).mono ?_); (case side1 => repeat (first | exact (Kd.C_below HR1075.out HB.out) | (with_reducible refine Kd.C_alloc ?_ _) | (with_reducible refine Kd.C_drewN ?_ _) | (with_reducible refine Kd.C_drew ?_))); (case side2 => exact HC1075.out); rintro e w' ⟨rfl, ⟨nd, rfl⟩⟩; (try first | exact ⟨rfl, _, World.drewN_drewN _ _ _⟩ | exact ⟨rfl, _, Eq.trans (World.drewN_drewN _ _ _) (congrArg (World.drewN _) (Nat.add_assoc _ _ _))⟩))); try go_wp2_with (first | (go_at_call 108; (with_reducible refine (tidelineref02_Get.calls k1 _ _ D_ t1076 t1077 t1078 _ ?side1 ?side2 A9.out).mono ?_); (case side1 => repeat (first | exact (Kd.C_below HR1075.out HB.out) | (with_reducible refine Kd.C_alloc ?_ _) | (with_reducible refine Kd.C_drewN ?_ _) | (with_reducible refine Kd.C_drew ?_))); (case side2 => exact HC1075.out); rintro e w' ⟨rfl, ⟨nd, rfl⟩⟩; (try first | exact ⟨rfl, _, World.drewN_drewN _ _ _⟩ | exact ⟨rfl, _, Eq.trans (World.drewN_drewN _ _ _) (congrArg (World.drewN _) (Nat.add_assoc _ _ _))⟩))))
                    go_ret2
                    exact ⟨_, by first | rfl | (simp [errW_none, errW_some] <;> rfl) | (simp [*, errW_none, errW_some] <;> rfl), by first | exact Kd.R_nil _ _ _ _ _ | exact Kd.N_nil _ _ _ _ _ | exact Kd.V_nil _ _ _ _ _ | exact Kd.Q_nil _ _ _ _ _ | exact Kd.S_nil _ _ _ _ _, by repeat (first | (with_reducible first | exact HB.out | apply below_alloc | apply pw_below_drewN | apply below_drew1) | exact HB.out)⟩
                  · rw [if_neg c11] at H
                    have c11b0 : decide ((IntKind.u64.wrap (wrap64 ((wrap64 ((l0.length : Int) - x7_1)) - t1077))) < t1076) = false := decide_eq_false c11
                    clear c11
                    obtain ⟨ji13, hji13⟩ : ∃ j_ : Int, (wrap64 (x7_1 + t1077)) = j_ := ⟨_, rfl⟩
                    replace H : (if 0 ≤ (ji13) then (if (ji13) ≤ (wrap64 ((ji13) + (wrap64 (t1076)))) then (if (wrap64 ((ji13) + (wrap64 (t1076)))) ≤ (l0.length : Int) then (if x9_1.length < 8796093022208 then (tidelineref06_read.l0 k1 l0 a1 t1072 (wrap64 ((ji13) + (wrap64 (t1076)))) (x9_1 ++ [strOfNums ((l0.take ((wrap64 ((ji13) + (wrap64 (t1076)))) : Int).toNat).drop ((ji13) : Int).toNat)]) (IntKind.u64.wrap (x10_1 + 1))) else (none)) else (none)) else (none)) else (none)) = some (r1, r2) := by first | (rw [hji13] at H; exact H) | (simp only [hji13] at H ⊢; exact H)
                    (try rw [hji13] at A9)
                    have hji13w : (IntKind.i64.wrap (x7_1 + t1077)) = ji13 := (i64_w _).trans hji13
                    by_cases c14 : 0 ≤ (ji13)
                    · rw [if_pos c14] at H
                      have c14b0 := eq_true c14
                      have c14b1 : decide (0 ≤ (ji13)) = true := decide_eq_true c14
                      clear c14
                      by_cases c15 : (ji13) ≤ (wrap64 ((ji13) + (wrap64 (t1076))))
                      · rw [if_pos c15] at H
                        have c15b0 := eq_true c15
                        have c15b1 : decide ((ji13) ≤ (wrap64 ((ji13) + (wrap64 (t1076))))) = true := decide_eq_true c15
                        by_cases c16 : (wrap64 ((ji13) + (wrap64 (t1076)))) ≤ (l0.length : Int)
                        · rw [if_pos c16] at H
                          have c16b0 := eq_true c16
                          have c16b1 : decide ((wrap64 ((ji13) + (wrap64 (t1076)))) ≤ (l0.length : Int)) = true := decide_eq_true c16
                          by_cases c17 : x9_1.length < 8796093022208
                          · rw [if_pos c17] at H
                            have LMc17 := Aside0.mk c17
                            clear c17
                            obtain ⟨y1080, hy1080⟩ : ∃ y_ : List ByteArray, y_ = (x9_1 ++ [strOfNums ((l0.take ((wrap64 ((ji13) + (wrap64 (t1076)))) : Int).toNat).drop ((ji13) : Int).toNat)]) := ⟨_, rfl⟩
                            replace H : (tidelineref06_read.l0 k1 l0 a1 t1072 (wrap64 ((ji13) + (wrap64 (t1076)))) y1080 (IntKind.u64.wrap (x10_1 + 1))) = some (r1, r2) := by first | (rw [hy1080]; with_reducible exact H) | (have H2_ := (Option.bind_some _ _).symm.trans H; rw [hy1080]; with_reducible exact H2_) | (have H2_ := (Option.bind_some _ _).symm.trans H; with_reducible exact H2_) | with_reducible exact H | (rw [hy1080]; exact H) | exact H
                            have Ny1080 := Aside0.mk hy1080
                            clear hy1080
                            have H' := Aside0.mk H
                            clear H
                            obtain ⟨i018, hi018, _, hsz18, _⟩ := info_parts info5
                            obtain ⟨A18, hcut18, hA18, hC18⟩ := print_drop_of (P := Try.prog) (Value.int .u8) 0 22 5 .i64 Try.underlying22 hi018 hsz18 A0 c0 l0 x7_1 (of_decide_eq_true (by first | (with_reducible assumption) | assumption)) (of_decide_eq_true (by first | (with_reducible assumption) | assumption)) HC0.out
                            have HR1075 := Aside0.mk (Kd.C_of_reads (h1 := fun _ => rfl) (hA18 _ (Kd.reads_of_C HR0.out)))
                            have HC1075 := Aside0.mk hC18
                            clear hA18 hC18 hi018 hsz18
                            obtain ⟨D_, hD_⟩ : ∃ D_ : List Int, D_ = l0.drop (x7_1 : Int).toNat := ⟨_, rfl⟩
                            rw [← hD_] at hcut18 HR1075 HC1075 A9
                            clear hD_
                            go_wp2_with (first | (go_at_call 108; (with_reducible refine (tidelineref02_Get.calls k1 _ _ D_ t1076 t1077 t1078 _ ?side1 ?side2 A9.out).mono ?_); (case side1 => repeat (first | exact (Kd.C_below HR1075.out HB.out) | (with_reducible refine Kd.C_alloc ?_ _) | (with_reducible refine Kd.C_drewN ?_ _) | (with_reducible refine Kd.C_drew ?_))); (case side2 => exact HC1075.out); rintro e w' ⟨rfl, ⟨nd, rfl⟩⟩; (try first | exact ⟨rfl, _, World.drewN_drewN _ _ _⟩ | exact ⟨rfl, _, Eq.trans (World.drewN_drewN _ _ _) (congrArg (World.drewN _) (Nat.add_assoc _ _ _))⟩); obtain ⟨i019, hi019, _, hsz19, _⟩ := info_parts info5; obtain ⟨A19, hcut19, hA19, hC19⟩ := print_mid_of (P := Try.prog) (Value.int .u8) 0 22 5 .i64 .i64 Try.underlying22 hi019 hsz19 A0 c0 l0 (ji13) (wrap64 ((ji13) + (wrap64 (t1076)))) (of_decide_eq_true (by first | (with_reducible assumption) | assumption)) (by first | omega | exact of_decide_eq_true (by first | (with_reducible assumption) | assumption)) (of_decide_eq_true (by first | (with_reducible assumption) | assumption)) HC0.out; have HR1079 := Aside0.mk (Kd.C_of_reads (h1 := fun _ => rfl) (hA19 _ (Kd.reads_of_C HR0.out))); have HC1079 := Aside0.mk hC19; clear hA19 hC19 hi019 hsz19; have hcv20 := Kd.C_string (P := Try.prog) (A := A19) (c := (c0 - (ji13).toNat)) Try.underlying22 Try.underlying5 Try.underlying9 (Kd.C_below HR1079.out HB.out); have hcv20q := fun q_ : Nat => Kd.C_string (P := Try.prog) (A := A19) (c := (c0 - (ji13).toNat)) Try.underlying22 Try.underlying5 Try.underlying9 (Kd.C_drewN (Kd.C_below HR1079.out HB.out) q_); generalize hM_ : (List.drop (ji13).toNat (List.take (wrap64 (ji13 + wrap64 t1076)).toNat l0)).length = M_ at hcut19 hcv20 hcv20q; clear hM_) | ((with_reducible refine gate_builtin (b := .append) (xs := #[.tmp 59, .tmp 72]) rfl ?_); (try (refine gate_guard (by rfl) ?_; dsimp only)); at_builtin; refine Kd.R_append Kd.string (w0 := w) w.heap.size rfl (.tmp 59) (.tmp 72) 151 9 (.string ⟨#[]⟩) 16 rfl Try.underlying151 info9 rfl (by decide) (by omega) u9 x9_1 (strOfNums ((l0.take ((wrap64 ((ji13) + (wrap64 (t1076)))) : Int).toNat).drop ((ji13) : Int).toNat)) [.string (strOfNums ((l0.take ((wrap64 ((ji13) + (wrap64 (t1076)))) : Int).toNat).drop ((ji13) : Int).toNat))] (fun _ => True) (fun _ => False) rfl rfl ?aP (fun _ hk => hk.elim) ?aF ?aO ?aB ?aS ?aL ?_; (case aP => exact rfl); (case aB => exact (by repeat (first | (with_reducible first | exact HB.out | apply below_alloc | apply pw_below_drewN | apply below_drew1) | exact HB.out))); (case aF => exact (fun _ _ => trivial)); (case aO => exact (by (with_reducible repeat (first | apply Kd.R_alloc | apply Kd.R_drewN | apply Kd.R_drew)); exact HO_9.out)); (case aS => exact (below_size (by repeat (first | (with_reducible first | exact HB.out | apply below_alloc | apply pw_below_drewN | apply below_drew1) | exact HB.out)))); (case aL => have := LMc17.out; omega); intro v1081 w21 ho hb hg hat; rw [← Ny1080.out] at ho; have n0_ := Aside0.mk (hb); have n1_ := Aside0.mk (ho); clear HB; clear HO_9; have HB := n0_; have HO1082 := n1_; clear n0_ n1_; clear ho hb hg hat))
                            repeat (go_quiet (first | (go_at_call 108; (with_reducible refine (tidelineref02_Get.calls k1 _ _ D_ t1076 t1077 t1078 _ ?side1 ?side2 A9.out).mono ?_); (case side1 => repeat (first | exact (Kd.C_below HR1075.out HB.out) | (with_reducible refine Kd.C_alloc ?_ _) | (with_reducible refine Kd.C_drewN ?_ _) | (with_reducible refine Kd.C_drew ?_))); (case side2 => exact HC1075.out); rintro e w' ⟨rfl, ⟨nd, rfl⟩⟩; (try first | exact ⟨rfl, _, World.drewN_drewN _ _ _⟩ | exact ⟨rfl, _, Eq.trans (World.drewN_drewN _ _ _) (congrArg (World.drewN _) (Nat.add_assoc _ _ _))⟩); obtain ⟨i019, hi019, _, hsz19, _⟩ := info_parts info5; obtain ⟨A19, hcut19, hA19, hC19⟩ := print_mid_of (P := Try.prog) (Value.int .u8) 0 22 5 .i64 .i64 Try.underlying22 hi019 hsz19 A0 c0 l0 (ji13) (wrap64 ((ji13) + (wrap64 (t1076)))) (of_decide_eq_true (by first | (with_reducible assumption) | assumption)) (by first | omega | exact of_decide_eq_true (by first | (with_reducible assumption) | assumption)) (of_decide_eq_true (by first | (with_reducible assumption) | assumption)) HC0.out; have HR1079 := Aside0.mk (Kd.C_of_reads (h1 := fun _ => rfl) (hA19 _ (Kd.reads_of_C HR0.out))); have HC1079 := Aside0.mk hC19; clear hA19 hC19 hi019 hsz19; have hcv20 := Kd.C_string (P := Try.prog) (A := A19) (c := (c0 - (ji13).toNat)) Try.underlying22 Try.underlying5 Try.underlying9 (Kd.C_below HR1079.out HB.out); have hcv20q := fun q_ : Nat => Kd.C_string (P := Try.prog) (A := A19) (c := (c0 - (ji13).toNat)) Try.underlying22 Try.underlying5 Try.underlying9 (Kd.C_drewN (Kd.C_below HR1079.out HB.out) q_); generalize hM_ : (List.drop (ji13).toNat (List.take (wrap64 (ji13 + wrap64 t1076)).toNat l0)).length = M_ at hcut19 hcv20 hcv20q; clear hM_) | ((with_reducible refine gate_builtin (b := .append) (xs := #[.tmp 59, .tmp 72]) rfl ?_); (try (refine gate_guard (by rfl) ?_; dsimp only)); at_builtin; refine Kd.R_append Kd.string (w0 := w) w.heap.size rfl (.tmp 59) (.tmp 72) 151 9 (.string ⟨#[]⟩) 16 rfl Try.underlying151 info9 rfl (by decide) (by omega) u9 x9_1 (strOfNums ((l0.take ((wrap64 ((ji13) + (wrap64 (t1076)))) : Int).toNat).drop ((ji13) : Int).toNat)) [.string (strOfNums ((l0.take ((wrap64 ((ji13) + (wrap64 (t1076)))) : Int).toNat).drop ((ji13) : Int).toNat))] (fun _ => True) (fun _ => False) rfl rfl ?aP (fun _ hk => hk.elim) ?aF ?aO ?aB ?aS ?aL ?_; (case aP => exact rfl); (case aB => exact (by repeat (first | (with_reducible first | exact HB.out | apply below_alloc | apply pw_below_drewN | apply below_drew1) | exact HB.out))); (case aF => exact (fun _ _ => trivial)); (case aO => exact (by (with_reducible repeat (first | apply Kd.R_alloc | apply Kd.R_drewN | apply Kd.R_drew)); exact HO_9.out)); (case aS => exact (below_size (by repeat (first | (with_reducible first | exact HB.out | apply below_alloc | apply pw_below_drewN | apply below_drew1) | exact HB.out)))); (case aL => have := LMc17.out; omega); intro v1081 w21 ho hb hg hat; rw [← Ny1080.out] at ho; have n0_ := Aside0.mk (hb); have n1_ := Aside0.mk (ho); clear HB; clear HO_9; have HB := n0_; have HO1082 := n1_; clear n0_ n1_; clear ho hb hg hat)); try go_wp2_with (first | (go_at_call 108; (with_reducible refine (tidelineref02_Get.calls k1 _ _ D_ t1076 t1077 t1078 _ ?side1 ?side2 A9.out).mono ?_); (case side1 => repeat (first | exact (Kd.C_below HR1075.out HB.out) | (with_reducible refine Kd.C_alloc ?_ _) | (with_reducible refine Kd.C_drewN ?_ _) | (with_reducible refine Kd.C_drew ?_))); (case side2 => exact HC1075.out); rintro e w' ⟨rfl, ⟨nd, rfl⟩⟩; (try first | exact ⟨rfl, _, World.drewN_drewN _ _ _⟩ | exact ⟨rfl, _, Eq.trans (World.drewN_drewN _ _ _) (congrArg (World.drewN _) (Nat.add_assoc _ _ _))⟩); obtain ⟨i019, hi019, _, hsz19, _⟩ := info_parts info5; obtain ⟨A19, hcut19, hA19, hC19⟩ := print_mid_of (P := Try.prog) (Value.int .u8) 0 22 5 .i64 .i64 Try.underlying22 hi019 hsz19 A0 c0 l0 (ji13) (wrap64 ((ji13) + (wrap64 (t1076)))) (of_decide_eq_true (by first | (with_reducible assumption) | assumption)) (by first | omega | exact of_decide_eq_true (by first | (with_reducible assumption) | assumption)) (of_decide_eq_true (by first | (with_reducible assumption) | assumption)) HC0.out; have HR1079 := Aside0.mk (Kd.C_of_reads (h1 := fun _ => rfl) (hA19 _ (Kd.reads_of_C HR0.out))); have HC1079 := Aside0.mk hC19; clear hA19 hC19 hi019 hsz19; have hcv20 := Kd.C_string (P := Try.prog) (A := A19) (c := (c0 - (ji13).toNat)) Try.underlying22 Try.underlying5 Try.underlying9 (Kd.C_below HR1079.out HB.out); have hcv20q := fun q_ : Nat => Kd.C_string (P := Try.prog) (A := A19) (c := (c0 - (ji13).toNat)) Try.underlying22 Try.underlying5 Try.underlying9 (Kd.C_drewN (Kd.C_below HR1079.out HB.out) q_); generalize hM_ : (List.drop (ji13).toNat (List.take (wrap64 (ji13 + wrap64 t1076)).toNat l0)).length = M_ at hcut19 hcv20 hcv20q; clear hM_) | ((with_reducible refine gate_builtin (b := .append) (xs := #[.tmp 59, .tmp 72]) rfl ?_); (try (refine gate_guard (by rfl) ?_; dsimp only)); at_builtin; refine Kd.R_append Kd.string (w0 := w) w.heap.size rfl (.tmp 59) (.tmp 72) 151 9 (.string ⟨#[]⟩) 16 rfl Try.underlying151 info9 rfl (by decide) (by omega) u9 x9_1 (strOfNums ((l0.take ((wrap64 ((ji13) + (wrap64 (t1076)))) : Int).toNat).drop ((ji13) : Int).toNat)) [.string (strOfNums ((l0.take ((wrap64 ((ji13) + (wrap64 (t1076)))) : Int).toNat).drop ((ji13) : Int).toNat))] (fun _ => True) (fun _ => False) rfl rfl ?aP (fun _ hk => hk.elim) ?aF ?aO ?aB ?aS ?aL ?_; (case aP => exact rfl); (case aB => exact (by repeat (first | (with_reducible first | exact HB.out | apply below_alloc | apply pw_below_drewN | apply below_drew1) | exact HB.out))); (case aF => exact (fun _ _ => trivial)); (case aO => exact (by (with_reducible repeat (first | apply Kd.R_alloc | apply Kd.R_drewN | apply Kd.R_drew)); exact HO_9.out)); (case aS => exact (below_size (by repeat (first | (with_reducible first | exact HB.out | apply below_alloc | apply pw_below_drewN | apply below_drew1) | exact HB.out)))); (case aL => have := LMc17.out; omega); intro v1081 w21 ho hb hg hat; rw [← Ny1080.out] at ho; have n0_ := Aside0.mk (hb); have n1_ := Aside0.mk (ho); clear HB; clear HO_9; have HB := n0_; have HO1082 := n1_; clear n0_ n1_; clear ho hb hg hat)))
                            go_roundg k1
                            case measure => have := HK1.out; omega
                            case rel => exact ⟨(wrap64 ((ji13) + (wrap64 (t1076)))), (y1080), (IntKind.u64.wrap (x10_1 + 1)), (by first | rfl | (simp; done) | (simp only [← hji13] <;> (first | rfl | simp)) | (simp [*]; done)), (by first | rfl | (simp; done) | (simp [*]; done)), H', ⟨by have := HK1.out; omega⟩, ⟨by (with_reducible repeat (first | apply Kd.R_alloc | apply Kd.R_drewN | apply Kd.R_drew)); exact HO1082.out⟩, ⟨by repeat (first | (with_reducible first | exact HB.out | apply below_alloc | apply pw_below_drewN | apply below_drew1) | exact HB.out)⟩⟩
                          · rw [if_neg c17] at H
                            exact absurd H (by simp)
                        · rw [if_neg c16] at H
                          exact absurd H (by simp)
                      · rw [if_neg c15] at H
                        exact absurd H (by simp)
                    · rw [if_neg c14] at H
                      exact absurd H (by simp)
                · rw [if_neg c10] at H
                  have c10b0 : (t1078 == 0) = false := beq_eq_false_iff_ne.mpr c10
                  have c10b1 : (t1078 != 0) = true := bne_iff_ne.mpr c10
                  simp only [Option.some.injEq, Prod.mk.injEq] at H
                  obtain ⟨rfl, rfl⟩ := H
                  obtain ⟨i022, hi022, _, hsz22, _⟩ := info_parts info5
                  obtain ⟨A22, hcut22, hA22, hC22⟩ := print_drop_of (P := Try.prog) (Value.int .u8) 0 22 5 .i64 Try.underlying22 hi022 hsz22 A0 c0 l0 x7_1 (of_decide_eq_true (by first | (with_reducible assumption) | assumption)) (of_decide_eq_true (by first | (with_reducible assumption) | assumption)) HC0.out
                  have HR1075 := Aside0.mk (Kd.C_of_reads (h1 := fun _ => rfl) (hA22 _ (Kd.reads_of_C HR0.out)))
                  have HC1075 := Aside0.mk hC22
                  clear hA22 hC22 hi022 hsz22
                  obtain ⟨D_, hD_⟩ : ∃ D_ : List Int, D_ = l0.drop (x7_1 : Int).toNat := ⟨_, rfl⟩
                  rw [← hD_] at hcut22 HR1075 HC1075 A9
                  clear hD_
                  go_wp2_with (first | (go_at_call 108; (with_reducible refine (tidelineref02_Get.calls k1 _ _ D_ t1076 t1077 t1078 _ ?side1 ?side2 A9.out).mono ?_); (case side1 => repeat (first | exact (Kd.C_below HR1075.out HB.out) | (with_reducible refine Kd.C_alloc ?_ _) | (with_reducible refine Kd.C_drewN ?_ _) | (with_reducible refine Kd.C_drew ?_))); (case side2 => exact HC1075.out); rintro e w' ⟨rfl, ⟨nd, rfl⟩⟩; (try first | exact ⟨rfl, _, World.drewN_drewN _ _ _⟩ | exact ⟨rfl, _, Eq.trans (World.drewN_drewN _ _ _) (congrArg (World.drewN _) (Nat.add_assoc _ _ _))⟩)))
                  repeat (go_quiet (first | (go_at_call 108; (with_reducible refine (tidelineref02_Get.calls k1 _ _ D_ t1076 t1077 t1078 _ ?side1 ?side2 A9.out).mono ?_); (case side1 => repeat (first | exact (Kd.C_below HR1075.out HB.out) | (with_reducible refine Kd.C_alloc ?_ _) | (with_reducible refine Kd.C_drewN ?_ _) | (with_reducible refine Kd.C_drew ?_))); (case side2 => exact HC1075.out); rintro e w' ⟨rfl, ⟨nd, rfl⟩⟩; (try first | exact ⟨rfl, _, World.drewN_drewN _ _ _⟩ | exact ⟨rfl, _, Eq.trans (World.drewN_drewN _ _ _) (congrArg (World.drewN _) (Nat.add_assoc _ _ _))⟩))); try go_wp2_with (first | (go_at_call 108; (with_reducible refine (tidelineref02_Get.calls k1 _ _ D_ t1076 t1077 t1078 _ ?side1 ?side2 A9.out).mono ?_); (case side1 => repeat (first | exact (Kd.C_below HR1075.out HB.out) | (with_reducible refine Kd.C_alloc ?_ _) | (with_reducible refine Kd.C_drewN ?_ _) | (with_reducible refine Kd.C_drew ?_))); (case side2 => exact HC1075.out); rintro e w' ⟨rfl, ⟨nd, rfl⟩⟩; (try first | exact ⟨rfl, _, World.drewN_drewN _ _ _⟩ | exact ⟨rfl, _, Eq.trans (World.drewN_drewN _ _ _) (congrArg (World.drewN _) (Nat.add_assoc _ _ _))⟩))))
                  go_ret2
                  exact ⟨_, by first | rfl | (simp [errW_none, errW_some] <;> rfl) | (simp [*, errW_none, errW_some] <;> rfl), by first | exact Kd.R_nil _ _ _ _ _ | exact Kd.N_nil _ _ _ _ _ | exact Kd.V_nil _ _ _ _ _ | exact Kd.Q_nil _ _ _ _ _ | exact Kd.S_nil _ _ _ _ _, by repeat (first | (with_reducible first | exact HB.out | apply below_alloc | apply pw_below_drewN | apply below_drew1) | exact HB.out)⟩
              · rw [if_neg c8] at H
                exact absurd H (by simp)
            · rw [if_neg c7] at H
              exact absurd H (by simp)
          · rw [if_neg c6] at H
            have c6b0 : decide (x10_1 < t1072) = false := decide_eq_false c6
            clear c6
            have H' := Aside0.mk H
            clear H
            go_wp2
            repeat (go_quiet (fail); try go_wp2)
            go_loopg [7, 14, 15] k1 (fun kq v7 v14 v15 w' => ∃ (x7_2 : Int) (x14_2 : List (S39)) (x15_2 : Int), v7 = .int .i64 x7_2 ∧ v15 = .int .i64 x15_2 ∧ Aside0 (tidelineref06_read.l1 kq l0 a1 t1072 x7_2 x9_1 x14_2 x15_2 = some (r1, r2)) ∧ Aside0 (kq ≤ k1) ∧ Aside0 (Kd.R Kd.string 9 w' w.heap.size (fun _ => True) u9 x9_1) ∧ Aside0 (Kd.R k39 39 w' w.heap.size (fun _ => True) v14 x14_2) ∧ Aside0 (Below w.heap.size w w'))
            case atStart => exact ⟨(x7_1), (([] : List (S39))), (0), (by first | rfl | (simp; done) | (simp [*]; done)), (by first | rfl | (simp; done) | (simp [*]; done)), H', ⟨Nat.le_refl _⟩, ⟨by (with_reducible repeat (first | apply Kd.R_alloc | apply Kd.R_drewN | apply Kd.R_drew)); exact HO_9.out⟩, ⟨by first | exact Kd.R_nil _ _ _ _ _ | exact Kd.N_nil _ _ _ _ _ | exact Kd.V_nil _ _ _ _ _ | exact Kd.Q_nil _ _ _ _ _ | exact Kd.S_nil _ _ _ _ _⟩, ⟨by repeat (first | (with_reducible first | exact HB.out | apply below_alloc | apply pw_below_drewN | apply below_drew1) | exact HB.out)⟩⟩
            case round =>
              clear H'
              try clear c1
              try clear p2
              try clear hcv2
              try clear c4
              try clear c4b0
              try clear c4b1
              try clear c5
              try clear c5b0
              try clear c6
              try clear c6b0
              try clear p6
              try clear c7
              try clear c7b0
              try clear c7b1
              try clear c8
              try clear c8b0
              try clear c8b1
              try clear c10
              try clear c10b0
              try clear c10b1
              try clear c11
              try clear c11b0
              try clear c14
              try clear c14b0
              try clear c14b1
              try clear c15
              try clear c15b0
              try clear c15b1
              try clear c16
              try clear c16b0
              try clear c16b1
              try clear c17
              try clear hcv20
              try clear p2
              obtain ⟨x7_2, x14_2, x15_2, rfl, rfl, HA, HK2, HO_9, HO_14, HB⟩ := hrel
              cases gk with
              | zero => exact absurd HA.out (by simp [tidelineref06_read.l1])
              | succ k2 =>
                have H := HA.out
                clear HA
                simp only [tidelineref06_read.l1] at H
                by_cases c23 : x15_2 < a1
                · rw [if_pos c23] at H
                  have c23b0 : decide (x15_2 < a1) = true := decide_eq_true c23
                  clear c23
                  by_cases c24 : 0 ≤ x7_2
                  · rw [if_pos c24] at H
                    have c24b0 := eq_true c24
                    have c24b1 : decide (0 ≤ x7_2) = true := decide_eq_true c24
                    clear c24
                    by_cases c25 : x7_2 ≤ (l0.length : Int)
                    · rw [if_pos c25] at H
                      have c25b0 := eq_true c25
                      have c25b1 : decide (x7_2 ≤ (l0.length : Int)) = true := decide_eq_true c25
                      clear c25
                      replace H := Option.bind_eq_some_iff.mp H
                      obtain ⟨⟨t1084, t1085, t1086⟩, A260, H⟩ := H
                      replace H : (if t1086 = 0 then (if t1084 ≥ t1072 then (some (([] : List (S39)), 21)) else (if 0 ≤ t1084 then (if t1084 < (x9_1.length : Int) then (if x14_2.length < 4398046511104 then (tidelineref06_read.l1 k2 l0 a1 t1072 (wrap64 (x7_2 + t1085)) x9_1 (x14_2 ++ [(⟨3, 0, rdOf ByteArray.empty x9_1 t1084⟩ : S39)]) (wrap64 (x15_2 + 1))) else (none)) else (none)) else (none))) else (some (([] : List (S39)), t1086))) = some (r1, r2) := H
                      have A26 := Aside0.mk A260
                      clear A260
                      by_cases c27 : t1086 = 0
                      · rw [if_pos c27] at H
                        have c27b0 : (t1086 == 0) = true := beq_iff_eq.mpr c27
                        have c27b1 : (t1086 != 0) = false := bne_eq_false_iff_eq.mpr c27
                        clear c27
                        by_cases c28 : t1084 ≥ t1072
                        · rw [if_pos c28] at H
                          have c28b0 : decide (t1072 ≤ t1084) = true := decide_eq_true c28
                          clear c28
                          simp only [Option.some.injEq, Prod.mk.injEq] at H
                          obtain ⟨rfl, rfl⟩ := H
                          obtain ⟨i029, hi029, _, hsz29, _⟩ := info_parts info5
                          obtain ⟨A29, hcut29, hA29, hC29⟩ := print_drop_of (P := Try.prog) (Value.int .u8) 0 22 5 .i64 Try.underlying22 hi029 hsz29 A0 c0 l0 x7_2 (of_decide_eq_true (by first | (with_reducible assumption) | assumption)) (of_decide_eq_true (by first | (with_reducible assumption) | assumption)) HC0.out
                          have HR1083 := Aside0.mk (Kd.C_of_reads (h1 := fun _ => rfl) (hA29 _ (Kd.reads_of_C HR0.out)))
                          have HC1083 := Aside0.mk hC29
                          clear hA29 hC29 hi029 hsz29
                          obtain ⟨D_, hD_⟩ : ∃ D_ : List Int, D_ = l0.drop (x7_2 : Int).toNat := ⟨_, rfl⟩
                          rw [← hD_] at hcut29 HR1083 HC1083 A26
                          clear hD_
                          go_wp2_with (first | (go_at_call 108; (with_reducible refine (tidelineref02_Get.calls k2 _ _ D_ t1084 t1085 t1086 _ ?side1 ?side2 A26.out).mono ?_); (case side1 => repeat (first | exact (Kd.C_below HR1083.out HB.out) | (with_reducible refine Kd.C_alloc ?_ _) | (with_reducible refine Kd.C_drewN ?_ _) | (with_reducible refine Kd.C_drew ?_))); (case side2 => exact HC1083.out); rintro e w' ⟨rfl, ⟨nd, rfl⟩⟩; (try first | exact ⟨rfl, _, World.drewN_drewN _ _ _⟩ | exact ⟨rfl, _, Eq.trans (World.drewN_drewN _ _ _) (congrArg (World.drewN _) (Nat.add_assoc _ _ _))⟩)))
                          repeat (go_quiet (first | (go_at_call 108; (with_reducible refine (tidelineref02_Get.calls k2 _ _ D_ t1084 t1085 t1086 _ ?side1 ?side2 A26.out).mono ?_); (case side1 => repeat (first | exact (Kd.C_below HR1083.out HB.out) | (with_reducible refine Kd.C_alloc ?_ _) | (with_reducible refine Kd.C_drewN ?_ _) | (with_reducible refine Kd.C_drew ?_))); (case side2 => exact HC1083.out); rintro e w' ⟨rfl, ⟨nd, rfl⟩⟩; (try first | exact ⟨rfl, _, World.drewN_drewN _ _ _⟩ | exact ⟨rfl, _, Eq.trans (World.drewN_drewN _ _ _) (congrArg (World.drewN _) (Nat.add_assoc _ _ _))⟩))); try go_wp2_with (first | (go_at_call 108; (with_reducible refine (tidelineref02_Get.calls k2 _ _ D_ t1084 t1085 t1086 _ ?side1 ?side2 A26.out).mono ?_); (case side1 => repeat (first | exact (Kd.C_below HR1083.out HB.out) | (with_reducible refine Kd.C_alloc ?_ _) | (with_reducible refine Kd.C_drewN ?_ _) | (with_reducible refine Kd.C_drew ?_))); (case side2 => exact HC1083.out); rintro e w' ⟨rfl, ⟨nd, rfl⟩⟩; (try first | exact ⟨rfl, _, World.drewN_drewN _ _ _⟩ | exact ⟨rfl, _, Eq.trans (World.drewN_drewN _ _ _) (congrArg (World.drewN _) (Nat.add_assoc _ _ _))⟩))))
                          go_ret2
                          exact ⟨_, by first | rfl | (simp [errW_none, errW_some] <;> rfl) | (simp [*, errW_none, errW_some] <;> rfl), by first | exact Kd.R_nil _ _ _ _ _ | exact Kd.N_nil _ _ _ _ _ | exact Kd.V_nil _ _ _ _ _ | exact Kd.Q_nil _ _ _ _ _ | exact Kd.S_nil _ _ _ _ _, by repeat (first | (with_reducible first | exact HB.out | apply below_alloc | apply pw_below_drewN | apply below_drew1) | exact HB.out)⟩
                        · rw [if_neg c28] at H
                          have c28b0 : decide (t1072 ≤ t1084) = false := decide_eq_false c28
                          clear c28
                          by_cases c30 : 0 ≤ t1084
                          · rw [if_pos c30] at H
                            have c30b0 : decide (0 ≤ t1084) = true := decide_eq_true c30
                            clear c30
                            by_cases c31 : t1084 < (x9_1.length : Int)
                            · rw [if_pos c31] at H
                              have c31b0 : decide (t1084 < (x9_1.length : Int)) = true := decide_eq_true c31
                              clear c31
                              by_cases c32 : x14_2.length < 4398046511104
                              · rw [if_pos c32] at H
                                have LMc32 := Aside0.mk c32
                                clear c32
                                obtain ⟨y1088, hy1088⟩ : ∃ y_ : List (S39), y_ = (x14_2 ++ [(⟨3, 0, rdOf ByteArray.empty x9_1 t1084⟩ : S39)]) := ⟨_, rfl⟩
                                replace H : (tidelineref06_read.l1 k2 l0 a1 t1072 (wrap64 (x7_2 + t1085)) x9_1 y1088 (wrap64 (x15_2 + 1))) = some (r1, r2) := by first | (rw [hy1088]; with_reducible exact H) | (have H2_ := (Option.bind_some _ _).symm.trans H; rw [hy1088]; with_reducible exact H2_) | (have H2_ := (Option.bind_some _ _).symm.trans H; with_reducible exact H2_) | with_reducible exact H | (rw [hy1088]; exact H) | exact H
                                have Ny1088 := Aside0.mk hy1088
                                clear hy1088
                                have H' := Aside0.mk H
                                clear H
                                obtain ⟨i033, hi033, _, hsz33, _⟩ := info_parts info5
                                obtain ⟨A33, hcut33, hA33, hC33⟩ := print_drop_of (P := Try.prog) (Value.int .u8) 0 22 5 .i64 Try.underlying22 hi033 hsz33 A0 c0 l0 x7_2 (of_decide_eq_true (by first | (with_reducible assumption) | assumption)) (of_decide_eq_true (by first | (with_reducible assumption) | assumption)) HC0.out
                                have HR1083 := Aside0.mk (Kd.C_of_reads (h1 := fun _ => rfl) (hA33 _ (Kd.reads_of_C HR0.out)))
                                have HC1083 := Aside0.mk hC33
                                clear hA33 hC33 hi033 hsz33
                                obtain ⟨D_, hD_⟩ : ∃ D_ : List Int, D_ = l0.drop (x7_2 : Int).toNat := ⟨_, rfl⟩
                                rw [← hD_] at hcut33 HR1083 HC1083 A26
                                clear hD_
                                go_wp2_with (first | (go_at_call 108; (with_reducible refine (tidelineref02_Get.calls k2 _ _ D_ t1084 t1085 t1086 _ ?side1 ?side2 A26.out).mono ?_); (case side1 => repeat (first | exact (Kd.C_below HR1083.out HB.out) | (with_reducible refine Kd.C_alloc ?_ _) | (with_reducible refine Kd.C_drewN ?_ _) | (with_reducible refine Kd.C_drew ?_))); (case side2 => exact HC1083.out); rintro e w' ⟨rfl, ⟨nd, rfl⟩⟩; (try first | exact ⟨rfl, _, World.drewN_drewN _ _ _⟩ | exact ⟨rfl, _, Eq.trans (World.drewN_drewN _ _ _) (congrArg (World.drewN _) (Nat.add_assoc _ _ _))⟩); obtain ⟨Ao34, co34, eo34⟩ := Kd.R_slice HO_9.out; subst eo34; have p1087 : 0 ≤ (t1084 : Int) := of_decide_eq_true (by first | (with_reducible assumption) | assumption); have q1087 : t1084 < (x9_1.length : Int) := of_decide_eq_true (by first | (with_reducible assumption) | assumption); obtain ⟨ad1087, e1087, hx1087_0⟩ := Kd.at_string (Kd.R_reads' HO_9.out).2.2 t1084 p1087 q1087; cases e1087; replace p1087 := eq_true p1087; replace q1087 := eq_true q1087) | ((with_reducible refine gate_builtin (b := .append) (xs := #[.tmp 102, .tmp 108]) rfl ?_); (try (refine gate_guard (by rfl) ?_; dsimp only)); at_builtin; refine Kd.R_append k39 (w0 := w) w.heap.size rfl (.tmp 102) (.tmp 108) 23 39 (.agg #[(.int .u8 0), (.int .i64 0), (.string ⟨#[]⟩)]) 32 rfl Try.underlying23 info39 rfl (by decide) (by omega) u14 x14_2 (⟨3, 0, rdOf ByteArray.empty x9_1 t1084⟩ : S39) [.int .u8 3, .int .i64 0, .string (rdOf ByteArray.empty x9_1 t1084)] (fun _ => True) (fun _ => False) rfl rfl ?aP (fun _ hk => hk.elim) ?aF ?aO ?aB ?aS ?aL ?_; (case aP => exact k39_mkM _ _ _ (⟨3, 0, rdOf ByteArray.empty x9_1 t1084⟩ : S39)); (case aB => exact (by repeat (first | (with_reducible first | exact HB.out | apply below_alloc | apply pw_below_drewN | apply below_drew1) | exact HB.out))); (case aF => exact (fun _ _ => trivial)); (case aO => exact (by (with_reducible repeat (first | apply Kd.R_alloc | apply Kd.R_drewN | apply Kd.R_drew)); exact HO_14.out)); (case aS => exact (below_size (by repeat (first | (with_reducible first | exact HB.out | apply below_alloc | apply pw_below_drewN | apply below_drew1) | exact HB.out)))); (case aL => have := LMc32.out; omega); intro v1089 w35 ho hb hg hat; rw [← Ny1088.out] at ho; have n0_ := Aside0.mk (Kd.R_over' (by (with_reducible repeat (first | apply Kd.R_alloc | apply Kd.R_drewN | apply Kd.R_drew)); exact HO_9.out) (Kd.R_typed (by (with_reducible repeat (first | apply Kd.R_alloc | apply Kd.R_drewN | apply Kd.R_drew)); exact HO_14.out)) (by decide) hg); have n1_ := Aside0.mk (hb); have n2_ := Aside0.mk (ho); clear HO_9; clear HB; clear HO_14; have HO_9 := n0_; have HB := n1_; have HO1090 := n2_; clear n0_ n1_ n2_; clear ho hb hg hat))
                                repeat (go_quiet (first | (go_at_call 108; (with_reducible refine (tidelineref02_Get.calls k2 _ _ D_ t1084 t1085 t1086 _ ?side1 ?side2 A26.out).mono ?_); (case side1 => repeat (first | exact (Kd.C_below HR1083.out HB.out) | (with_reducible refine Kd.C_alloc ?_ _) | (with_reducible refine Kd.C_drewN ?_ _) | (with_reducible refine Kd.C_drew ?_))); (case side2 => exact HC1083.out); rintro e w' ⟨rfl, ⟨nd, rfl⟩⟩; (try first | exact ⟨rfl, _, World.drewN_drewN _ _ _⟩ | exact ⟨rfl, _, Eq.trans (World.drewN_drewN _ _ _) (congrArg (World.drewN _) (Nat.add_assoc _ _ _))⟩); obtain ⟨Ao34, co34, eo34⟩ := Kd.R_slice HO_9.out; subst eo34; have p1087 : 0 ≤ (t1084 : Int) := of_decide_eq_true (by first | (with_reducible assumption) | assumption); have q1087 : t1084 < (x9_1.length : Int) := of_decide_eq_true (by first | (with_reducible assumption) | assumption); obtain ⟨ad1087, e1087, hx1087_0⟩ := Kd.at_string (Kd.R_reads' HO_9.out).2.2 t1084 p1087 q1087; cases e1087; replace p1087 := eq_true p1087; replace q1087 := eq_true q1087) | ((with_reducible refine gate_builtin (b := .append) (xs := #[.tmp 102, .tmp 108]) rfl ?_); (try (refine gate_guard (by rfl) ?_; dsimp only)); at_builtin; refine Kd.R_append k39 (w0 := w) w.heap.size rfl (.tmp 102) (.tmp 108) 23 39 (.agg #[(.int .u8 0), (.int .i64 0), (.string ⟨#[]⟩)]) 32 rfl Try.underlying23 info39 rfl (by decide) (by omega) u14 x14_2 (⟨3, 0, rdOf ByteArray.empty x9_1 t1084⟩ : S39) [.int .u8 3, .int .i64 0, .string (rdOf ByteArray.empty x9_1 t1084)] (fun _ => True) (fun _ => False) rfl rfl ?aP (fun _ hk => hk.elim) ?aF ?aO ?aB ?aS ?aL ?_; (case aP => exact k39_mkM _ _ _ (⟨3, 0, rdOf ByteArray.empty x9_1 t1084⟩ : S39)); (case aB => exact (by repeat (first | (with_reducible first | exact HB.out | apply below_alloc | apply pw_below_drewN | apply below_drew1) | exact HB.out))); (case aF => exact (fun _ _ => trivial)); (case aO => exact (by (with_reducible repeat (first | apply Kd.R_alloc | apply Kd.R_drewN | apply Kd.R_drew)); exact HO_14.out)); (case aS => exact (below_size (by repeat (first | (with_reducible first | exact HB.out | apply below_alloc | apply pw_below_drewN | apply below_drew1) | exact HB.out)))); (case aL => have := LMc32.out; omega); intro v1089 w35 ho hb hg hat; rw [← Ny1088.out] at ho; have n0_ := Aside0.mk (Kd.R_over' (by (with_reducible repeat (first | apply Kd.R_alloc | apply Kd.R_drewN | apply Kd.R_drew)); exact HO_9.out) (Kd.R_typed (by (with_reducible repeat (first | apply Kd.R_alloc | apply Kd.R_drewN | apply Kd.R_drew)); exact HO_14.out)) (by decide) hg); have n1_ := Aside0.mk (hb); have n2_ := Aside0.mk (ho); clear HO_9; clear HB; clear HO_14; have HO_9 := n0_; have HB := n1_; have HO1090 := n2_; clear n0_ n1_ n2_; clear ho hb hg hat)); try go_wp2_with (first | (go_at_call 108; (with_reducible refine (tidelineref02_Get.calls k2 _ _ D_ t1084 t1085 t1086 _ ?side1 ?side2 A26.out).mono ?_); (case side1 => repeat (first | exact (Kd.C_below HR1083.out HB.out) | (with_reducible refine Kd.C_alloc ?_ _) | (with_reducible refine Kd.C_drewN ?_ _) | (with_reducible refine Kd.C_drew ?_))); (case side2 => exact HC1083.out); rintro e w' ⟨rfl, ⟨nd, rfl⟩⟩; (try first | exact ⟨rfl, _, World.drewN_drewN _ _ _⟩ | exact ⟨rfl, _, Eq.trans (World.drewN_drewN _ _ _) (congrArg (World.drewN _) (Nat.add_assoc _ _ _))⟩); obtain ⟨Ao34, co34, eo34⟩ := Kd.R_slice HO_9.out; subst eo34; have p1087 : 0 ≤ (t1084 : Int) := of_decide_eq_true (by first | (with_reducible assumption) | assumption); have q1087 : t1084 < (x9_1.length : Int) := of_decide_eq_true (by first | (with_reducible assumption) | assumption); obtain ⟨ad1087, e1087, hx1087_0⟩ := Kd.at_string (Kd.R_reads' HO_9.out).2.2 t1084 p1087 q1087; cases e1087; replace p1087 := eq_true p1087; replace q1087 := eq_true q1087) | ((with_reducible refine gate_builtin (b := .append) (xs := #[.tmp 102, .tmp 108]) rfl ?_); (try (refine gate_guard (by rfl) ?_; dsimp only)); at_builtin; refine Kd.R_append k39 (w0 := w) w.heap.size rfl (.tmp 102) (.tmp 108) 23 39 (.agg #[(.int .u8 0), (.int .i64 0), (.string ⟨#[]⟩)]) 32 rfl Try.underlying23 info39 rfl (by decide) (by omega) u14 x14_2 (⟨3, 0, rdOf ByteArray.empty x9_1 t1084⟩ : S39) [.int .u8 3, .int .i64 0, .string (rdOf ByteArray.empty x9_1 t1084)] (fun _ => True) (fun _ => False) rfl rfl ?aP (fun _ hk => hk.elim) ?aF ?aO ?aB ?aS ?aL ?_; (case aP => exact k39_mkM _ _ _ (⟨3, 0, rdOf ByteArray.empty x9_1 t1084⟩ : S39)); (case aB => exact (by repeat (first | (with_reducible first | exact HB.out | apply below_alloc | apply pw_below_drewN | apply below_drew1) | exact HB.out))); (case aF => exact (fun _ _ => trivial)); (case aO => exact (by (with_reducible repeat (first | apply Kd.R_alloc | apply Kd.R_drewN | apply Kd.R_drew)); exact HO_14.out)); (case aS => exact (below_size (by repeat (first | (with_reducible first | exact HB.out | apply below_alloc | apply pw_below_drewN | apply below_drew1) | exact HB.out)))); (case aL => have := LMc32.out; omega); intro v1089 w35 ho hb hg hat; rw [← Ny1088.out] at ho; have n0_ := Aside0.mk (Kd.R_over' (by (with_reducible repeat (first | apply Kd.R_alloc | apply Kd.R_drewN | apply Kd.R_drew)); exact HO_9.out) (Kd.R_typed (by (with_reducible repeat (first | apply Kd.R_alloc | apply Kd.R_drewN | apply Kd.R_drew)); exact HO_14.out)) (by decide) hg); have n1_ := Aside0.mk (hb); have n2_ := Aside0.mk (ho); clear HO_9; clear HB; clear HO_14; have HO_9 := n0_; have HB := n1_; have HO1090 := n2_; clear n0_ n1_ n2_; clear ho hb hg hat)))
                                go_roundg k2
                                case measure => have := HK1.out; have := HK2.out; omega
                                case rel => exact ⟨(wrap64 (x7_2 + t1085)), (y1088), (wrap64 (x15_2 + 1)), (by first | rfl | (simp; done) | (simp [*]; done)), (by first | rfl | (simp; done) | (simp [*]; done)), H', ⟨by have := HK1.out; have := HK2.out; omega⟩, ⟨by (with_reducible repeat (first | apply Kd.R_alloc | apply Kd.R_drewN | apply Kd.R_drew)); exact HO_9.out⟩, ⟨by (with_reducible repeat (first | apply Kd.R_alloc | apply Kd.R_drewN | apply Kd.R_drew)); exact HO1090.out⟩, ⟨by repeat (first | (with_reducible first | exact HB.out | apply below_alloc | apply pw_below_drewN | apply below_drew1) | exact HB.out)⟩⟩
                              · rw [if_neg c32] at H
                                exact absurd H (by simp)
                            · rw [if_neg c31] at H
                              exact absurd H (by simp)
                          · rw [if_neg c30] at H
                            exact absurd H (by simp)
                      · rw [if_neg c27] at H
                        have c27b0 : (t1086 == 0) = false := beq_eq_false_iff_ne.mpr c27
                        have c27b1 : (t1086 != 0) = true := bne_iff_ne.mpr c27
                        simp only [Option.some.injEq, Prod.mk.injEq] at H
                        obtain ⟨rfl, rfl⟩ := H
                        obtain ⟨i036, hi036, _, hsz36, _⟩ := info_parts info5
                        obtain ⟨A36, hcut36, hA36, hC36⟩ := print_drop_of (P := Try.prog) (Value.int .u8) 0 22 5 .i64 Try.underlying22 hi036 hsz36 A0 c0 l0 x7_2 (of_decide_eq_true (by first | (with_reducible assumption) | assumption)) (of_decide_eq_true (by first | (with_reducible assumption) | assumption)) HC0.out
                        have HR1083 := Aside0.mk (Kd.C_of_reads (h1 := fun _ => rfl) (hA36 _ (Kd.reads_of_C HR0.out)))
                        have HC1083 := Aside0.mk hC36
                        clear hA36 hC36 hi036 hsz36
                        obtain ⟨D_, hD_⟩ : ∃ D_ : List Int, D_ = l0.drop (x7_2 : Int).toNat := ⟨_, rfl⟩
                        rw [← hD_] at hcut36 HR1083 HC1083 A26
                        clear hD_
                        go_wp2_with (first | (go_at_call 108; (with_reducible refine (tidelineref02_Get.calls k2 _ _ D_ t1084 t1085 t1086 _ ?side1 ?side2 A26.out).mono ?_); (case side1 => repeat (first | exact (Kd.C_below HR1083.out HB.out) | (with_reducible refine Kd.C_alloc ?_ _) | (with_reducible refine Kd.C_drewN ?_ _) | (with_reducible refine Kd.C_drew ?_))); (case side2 => exact HC1083.out); rintro e w' ⟨rfl, ⟨nd, rfl⟩⟩; (try first | exact ⟨rfl, _, World.drewN_drewN _ _ _⟩ | exact ⟨rfl, _, Eq.trans (World.drewN_drewN _ _ _) (congrArg (World.drewN _) (Nat.add_assoc _ _ _))⟩)))
                        repeat (go_quiet (first | (go_at_call 108; (with_reducible refine (tidelineref02_Get.calls k2 _ _ D_ t1084 t1085 t1086 _ ?side1 ?side2 A26.out).mono ?_); (case side1 => repeat (first | exact (Kd.C_below HR1083.out HB.out) | (with_reducible refine Kd.C_alloc ?_ _) | (with_reducible refine Kd.C_drewN ?_ _) | (with_reducible refine Kd.C_drew ?_))); (case side2 => exact HC1083.out); rintro e w' ⟨rfl, ⟨nd, rfl⟩⟩; (try first | exact ⟨rfl, _, World.drewN_drewN _ _ _⟩ | exact ⟨rfl, _, Eq.trans (World.drewN_drewN _ _ _) (congrArg (World.drewN _) (Nat.add_assoc _ _ _))⟩))); try go_wp2_with (first | (go_at_call 108; (with_reducible refine (tidelineref02_Get.calls k2 _ _ D_ t1084 t1085 t1086 _ ?side1 ?side2 A26.out).mono ?_); (case side1 => repeat (first | exact (Kd.C_below HR1083.out HB.out) | (with_reducible refine Kd.C_alloc ?_ _) | (with_reducible refine Kd.C_drewN ?_ _) | (with_reducible refine Kd.C_drew ?_))); (case side2 => exact HC1083.out); rintro e w' ⟨rfl, ⟨nd, rfl⟩⟩; (try first | exact ⟨rfl, _, World.drewN_drewN _ _ _⟩ | exact ⟨rfl, _, Eq.trans (World.drewN_drewN _ _ _) (congrArg (World.drewN _) (Nat.add_assoc _ _ _))⟩))))
                        go_ret2
                        exact ⟨_, by first | rfl | (simp [errW_none, errW_some] <;> rfl) | (simp [*, errW_none, errW_some] <;> rfl), by first | exact Kd.R_nil _ _ _ _ _ | exact Kd.N_nil _ _ _ _ _ | exact Kd.V_nil _ _ _ _ _ | exact Kd.Q_nil _ _ _ _ _ | exact Kd.S_nil _ _ _ _ _, by repeat (first | (with_reducible first | exact HB.out | apply below_alloc | apply pw_below_drewN | apply below_drew1) | exact HB.out)⟩
                    · rw [if_neg c25] at H
                      exact absurd H (by simp)
                  · rw [if_neg c24] at H
                    exact absurd H (by simp)
                · rw [if_neg c23] at H
                  have c23b0 : decide (x15_2 < a1) = false := decide_eq_false c23
                  clear c23
                  replace H := Option.bind_eq_some_iff.mp H
                  obtain ⟨t1091, A370, H⟩ := H
                  replace H : (if x7_2 = (l0.length : Int) then (tidelineref06_read.j2 k2 x9_1 x14_2 t1091 ((t1091.length : Int) != (x9_1.length : Int))) else (tidelineref06_read.j2 k2 x9_1 x14_2 t1091 true)) = some (r1, r2) := H
                  have A37 := Aside0.mk A370
                  clear A370
                  have HC38 := Aside0.mk H
                  clear H
                  obtain ⟨Ao39, co39, eo39⟩ := Kd.R_slice HO_14.out
                  subst eo39
                  go_upto_region 29 with (first | (go_at_call 141; (with_reducible refine (tidelineref06_Words.calls k2 _ _ x14_2 t1091 _ ?side1 ?side2 A37.out).mono ?_); (case side1 => repeat (first | exact (Kd.R_reads' HO_14.out).2.2 | (with_reducible refine Kd.C_alloc ?_ _) | (with_reducible refine Kd.C_drewN ?_ _) | (with_reducible refine Kd.C_drew ?_))); (case side2 => exact (Kd.R_reads' HO_14.out).2.1); rintro e w40 ⟨v1092, rfl, ho0, hb⟩; have n0_ := Aside0.mk (Kd.R_elder' (by (with_reducible repeat (first | apply Kd.R_alloc | apply Kd.R_drewN | apply Kd.R_drew)); exact HO_9.out) (Kd.R_base ho0) hb); have n1_ := Aside0.mk (Kd.R_below (by (with_reducible repeat (first | apply Kd.R_alloc | apply Kd.R_drewN | apply Kd.R_drew)); exact HO_14.out) hb); have n2_ := Aside0.mk (Kd.R_lower (Kd.R_new' ho0 (Kd.R_lt (by (with_reducible repeat (first | apply Kd.R_alloc | apply Kd.R_drewN | apply Kd.R_drew)); exact HO_9.out))) (below_size (by repeat (first | (with_reducible first | exact HB.out | apply below_alloc | apply pw_below_drewN | apply below_drew1) | exact HB.out)))); have n3_ := Aside0.mk (below_step (by repeat (first | (with_reducible first | exact HB.out | apply below_alloc | apply pw_below_drewN | apply below_drew1) | exact HB.out)) hb); clear HO_9; clear HO_14; clear HB; have HO_9 := n0_; have HO_14 := n1_; have HO1093 := n2_; have HB := n3_; clear n0_ n1_ n2_ n3_; (try clear hb); (try clear hb2); (try clear hk); (try clear hi); (try clear ho0)))
                  repeat (go_quiet (first | (go_at_call 141; (with_reducible refine (tidelineref06_Words.calls k2 _ _ x14_2 t1091 _ ?side1 ?side2 A37.out).mono ?_); (case side1 => repeat (first | exact (Kd.R_reads' HO_14.out).2.2 | (with_reducible refine Kd.C_alloc ?_ _) | (with_reducible refine Kd.C_drewN ?_ _) | (with_reducible refine Kd.C_drew ?_))); (case side2 => exact (Kd.R_reads' HO_14.out).2.1); rintro e w40 ⟨v1092, rfl, ho0, hb⟩; have n0_ := Aside0.mk (Kd.R_elder' (by (with_reducible repeat (first | apply Kd.R_alloc | apply Kd.R_drewN | apply Kd.R_drew)); exact HO_9.out) (Kd.R_base ho0) hb); have n1_ := Aside0.mk (Kd.R_below (by (with_reducible repeat (first | apply Kd.R_alloc | apply Kd.R_drewN | apply Kd.R_drew)); exact HO_14.out) hb); have n2_ := Aside0.mk (Kd.R_lower (Kd.R_new' ho0 (Kd.R_lt (by (with_reducible repeat (first | apply Kd.R_alloc | apply Kd.R_drewN | apply Kd.R_drew)); exact HO_9.out))) (below_size (by repeat (first | (with_reducible first | exact HB.out | apply below_alloc | apply pw_below_drewN | apply below_drew1) | exact HB.out)))); have n3_ := Aside0.mk (below_step (by repeat (first | (with_reducible first | exact HB.out | apply below_alloc | apply pw_below_drewN | apply below_drew1) | exact HB.out)) hb); clear HO_9; clear HO_14; clear HB; have HO_9 := n0_; have HO_14 := n1_; have HO1093 := n2_; have HB := n3_; clear n0_ n1_ n2_ n3_; (try clear hb); (try clear hb2); (try clear hk); (try clear hi); (try clear ho0))); go_upto_region 29 with (first | (go_at_call 141; (with_reducible refine (tidelineref06_Words.calls k2 _ _ x14_2 t1091 _ ?side1 ?side2 A37.out).mono ?_); (case side1 => repeat (first | exact (Kd.R_reads' HO_14.out).2.2 | (with_reducible refine Kd.C_alloc ?_ _) | (with_reducible refine Kd.C_drewN ?_ _) | (with_reducible refine Kd.C_drew ?_))); (case side2 => exact (Kd.R_reads' HO_14.out).2.1); rintro e w40 ⟨v1092, rfl, ho0, hb⟩; have n0_ := Aside0.mk (Kd.R_elder' (by (with_reducible repeat (first | apply Kd.R_alloc | apply Kd.R_drewN | apply Kd.R_drew)); exact HO_9.out) (Kd.R_base ho0) hb); have n1_ := Aside0.mk (Kd.R_below (by (with_reducible repeat (first | apply Kd.R_alloc | apply Kd.R_drewN | apply Kd.R_drew)); exact HO_14.out) hb); have n2_ := Aside0.mk (Kd.R_lower (Kd.R_new' ho0 (Kd.R_lt (by (with_reducible repeat (first | apply Kd.R_alloc | apply Kd.R_drewN | apply Kd.R_drew)); exact HO_9.out))) (below_size (by repeat (first | (with_reducible first | exact HB.out | apply below_alloc | apply pw_below_drewN | apply below_drew1) | exact HB.out)))); have n3_ := Aside0.mk (below_step (by repeat (first | (with_reducible first | exact HB.out | apply below_alloc | apply pw_below_drewN | apply below_drew1) | exact HB.out)) hb); clear HO_9; clear HO_14; clear HB; have HO_9 := n0_; have HO_14 := n1_; have HO1093 := n2_; have HB := n3_; clear n0_ n1_ n2_ n3_; (try clear hb); (try clear hb2); (try clear hk); (try clear hi); (try clear ho0))))
                  (try simp only [Act.put, List.setIfInBounds_toArray, List.set_cons_zero, List.set_cons_succ])
                  go_cut [122] (fun v122 wc => ∃ (kq : Nat) (x122_37 : Bool), v122 = .bool x122_37 ∧ Aside0 (tidelineref06_read.j2 kq x9_1 x14_2 t1091 x122_37 = some (r1, r2)) ∧ Aside0 (kq ≤ k2) ∧ Aside0 (Kd.R Kd.string 9 wc w.heap.size (fun k_ => some k_ ≠ (v1092 : Value).ownBlock) u9 x9_1) ∧ Aside0 (Kd.R k39 39 wc w.heap.size (fun _ => True) (.slice Ao39 x14_2.length co39) x14_2) ∧ Aside0 (Kd.R Kd.string 9 wc w.heap.size (fun k_ => some k_ ≠ (u9 : Value).ownBlock) v1092 t1091) ∧ Aside0 (Below w.heap.size w wc))
                  case first =>
                    have H := HC38.out
                    clear HC38
                    by_cases c41 : x7_2 = (l0.length : Int)
                    · rw [if_pos c41] at H
                      have c41b0 : (x7_2 == (l0.length : Int)) = true := beq_iff_eq.mpr c41
                      have c41b1 : (x7_2 != (l0.length : Int)) = false := bne_eq_false_iff_eq.mpr c41
                      clear c41
                      (first | rw [c41b0] | (simp only [i64_w, i32_w]; rw [c41b0]) | skip)
                      have H' := Aside0.mk H
                      clear H
                      obtain ⟨Ao42, co42, eo42⟩ := Kd.R_slice HO1093.out
                      subst eo42
                      obtain ⟨Ao43, co43, eo43⟩ := Kd.R_slice HO_9.out
                      subst eo43
                      go_wp2
                      repeat (go_quiet (fail); try go_wp2)
                      go_meet
                      case rel => exact ⟨_, (((t1091.length : Int) != (x9_1.length : Int))), (by first | rfl | (simp; done) | (simp [*]; done)), H', ⟨by have := HK1.out; have := HK2.out; first | omega | exact Nat.le_refl _⟩, ⟨by (with_reducible repeat (first | apply Kd.R_alloc | apply Kd.R_drewN | apply Kd.R_drew)); exact Kd.R_mono HO_9.out (fun _ hk => hk.2)⟩, ⟨by (with_reducible repeat (first | apply Kd.R_alloc | apply Kd.R_drewN | apply Kd.R_drew)); exact HO_14.out⟩, ⟨by (with_reducible repeat (first | apply Kd.R_alloc | apply Kd.R_drewN | apply Kd.R_drew)); exact Kd.R_mono HO1093.out (fun _ hk => hk.2)⟩, ⟨by repeat (first | (with_reducible first | exact HB.out | apply below_alloc | apply pw_below_drewN | apply below_drew1) | exact HB.out)⟩⟩
                    · rw [if_neg c41] at H
                      have c41b0 : (x7_2 == (l0.length : Int)) = false := beq_eq_false_iff_ne.mpr c41
                      have c41b1 : (x7_2 != (l0.length : Int)) = true := bne_iff_ne.mpr c41
                      (first | rw [c41b0] | (simp only [i64_w, i32_w]; rw [c41b0]) | skip)
                      have H' := Aside0.mk H
                      clear H
                      go_wp2
                      repeat (go_quiet (fail); try go_wp2)
                      go_meet
                      case rel => exact ⟨_, (true), (by first | rfl | (simp; done) | (simp [*]; done)), H', ⟨by have := HK1.out; have := HK2.out; first | omega | exact Nat.le_refl _⟩, ⟨by (with_reducible repeat (first | apply Kd.R_alloc | apply Kd.R_drewN | apply Kd.R_drew)); exact Kd.R_mono HO_9.out (fun _ hk => hk.2)⟩, ⟨by (with_reducible repeat (first | apply Kd.R_alloc | apply Kd.R_drewN | apply Kd.R_drew)); exact HO_14.out⟩, ⟨by (with_reducible repeat (first | apply Kd.R_alloc | apply Kd.R_drewN | apply Kd.R_drew)); exact Kd.R_mono HO1093.out (fun _ hk => hk.2)⟩, ⟨by repeat (first | (with_reducible first | exact HB.out | apply below_alloc | apply pw_below_drewN | apply below_drew1) | exact HB.out)⟩⟩
                  case rest =>
                    clear HC38
                    try clear c1
                    try clear p1
                    try clear q1
                    try clear hx1
                    try clear c2
                    try clear p2
                    try clear hcv2
                    try clear c3
                    try clear c4
                    try clear c4b0
                    try clear c4b1
                    try clear c5
                    try clear c5b0
                    try clear c6
                    try clear c6b0
                    try clear p6
                    try clear c7
                    try clear c7b0
                    try clear c7b1
                    try clear c8
                    try clear c8b0
                    try clear c8b1
                    try clear c10
                    try clear c10b0
                    try clear c10b1
                    try clear p10
                    try clear q10
                    try clear hx10
                    try clear c11
                    try clear c11b0
                    try clear c14
                    try clear c14b0
                    try clear c14b1
                    try clear c15
                    try clear c15b0
                    try clear c15b1
                    try clear c16
                    try clear c16b0
                    try clear c16b1
                    try clear c17
                    try clear hcv20
                    try clear c23
                    try clear c23b0
                    try clear c24
                    try clear c24b0
                    try clear c24b1
                    try clear c25
                    try clear c25b0
                    try clear c25b1
                    try clear c27
                    try clear c27b0
                    try clear c27b1
                    try clear c28
                    try clear c28b0
                    try clear c30
                    try clear c30b0
                    try clear c31
                    try clear c31b0
                    try clear c32
                    try clear c41
                    try clear c41b0
                    try clear c41b1
                    try clear hx1087_0
                    try clear p1087
                    try clear p2
                    try clear p6
                    try clear q1087
                    obtain ⟨kq, x122_37, rfl, HA, HJ37, HO_9, HO_14, HO_19, HB⟩ := hcut
                    cases kq with
                    | zero => exact absurd HA.out (by simp [tidelineref06_read.j2])
                    | succ kj37 =>
                      have H := HA.out
                      clear HA
                      simp only [tidelineref06_read.j2] at H
                      by_cases c44 : x122_37 = true
                      · subst c44
                        have H1 : (some (([] : List (S39)), 21)) = some (r1, r2) := by rw [if_pos rfl] at H; exact H
                        clear H
                        have H := H1
                        clear H1
                        simp only [Option.some.injEq, Prod.mk.injEq] at H
                        obtain ⟨rfl, rfl⟩ := H
                        go_wp2
                        repeat (go_quiet (fail); try go_wp2)
                        go_ret2
                        exact ⟨_, by first | rfl | (simp [errW_none, errW_some] <;> rfl) | (simp [*, errW_none, errW_some] <;> rfl), by first | exact Kd.R_nil _ _ _ _ _ | exact Kd.N_nil _ _ _ _ _ | exact Kd.V_nil _ _ _ _ _ | exact Kd.Q_nil _ _ _ _ _ | exact Kd.S_nil _ _ _ _ _, by repeat (first | (with_reducible first | exact HB.out | apply below_alloc | apply pw_below_drewN | apply below_drew1) | exact HB.out)⟩
                      · replace c44 := Bool.eq_false_iff.mpr c44
                        subst c44
                        have H1 : (tidelineref06_read.l2 kj37 x9_1 x14_2 t1091 0) = some (r1, r2) := by rw [if_neg (show ¬ (false = true) by decide)] at H; exact H
                        clear H
                        have H := H1
                        clear H1
                        have H' := Aside0.mk H
                        clear H
                        go_wp2
                        repeat (go_quiet (fail); try go_wp2)
                        go_loopg [20] kj37 (fun kq v20 w' => ∃ (x20_4 : Int), v20 = .int .i64 x20_4 ∧ Aside0 (tidelineref06_read.l2 kq x9_1 x14_2 t1091 x20_4 = some (r1, r2)) ∧ Aside0 (kq ≤ kj37) ∧ Aside0 (Kd.R Kd.string 9 w' w.heap.size (fun k_ => some k_ ≠ (v1092 : Value).ownBlock) u9 x9_1) ∧ Aside0 (Kd.R k39 39 w' w.heap.size (fun _ => True) (.slice Ao39 x14_2.length co39) x14_2) ∧ Aside0 (Kd.R Kd.string 9 w' w.heap.size (fun k_ => some k_ ≠ (u9 : Value).ownBlock) v1092 t1091) ∧ Aside0 (Below w.heap.size w w'))
                        case atStart => exact ⟨(0), (by first | rfl | (simp; done) | (simp [*]; done)), H', ⟨Nat.le_refl _⟩, ⟨by (with_reducible repeat (first | apply Kd.R_alloc | apply Kd.R_drewN | apply Kd.R_drew)); exact HO_9.out⟩, ⟨by (with_reducible repeat (first | apply Kd.R_alloc | apply Kd.R_drewN | apply Kd.R_drew)); exact HO_14.out⟩, ⟨by (with_reducible repeat (first | apply Kd.R_alloc | apply Kd.R_drewN | apply Kd.R_drew)); exact HO_19.out⟩, ⟨by repeat (first | (with_reducible first | exact HB.out | apply below_alloc | apply pw_below_drewN | apply below_drew1) | exact HB.out)⟩⟩
                        case round =>
                          clear H'
                          try clear c1
                          try clear p1
                          try clear q1
                          try clear hx1
                          try clear c2
                          try clear p2
                          try clear hcv2
                          try clear c3
                          try clear c4
                          try clear c4b0
                          try clear c4b1
                          try clear c5
                          try clear c5b0
                          try clear c6
                          try clear c6b0
                          try clear p6
                          try clear c7
                          try clear c7b0
                          try clear c7b1
                          try clear c8
                          try clear c8b0
                          try clear c8b1
                          try clear c10
                          try clear c10b0
                          try clear c10b1
                          try clear p10
                          try clear q10
                          try clear hx10
                          try clear c11
                          try clear c11b0
                          try clear c14
                          try clear c14b0
                          try clear c14b1
                          try clear c15
                          try clear c15b0
                          try clear c15b1
                          try clear c16
                          try clear c16b0
                          try clear c16b1
                          try clear c17
                          try clear hcv20
                          try clear c23
                          try clear c23b0
                          try clear c24
                          try clear c24b0
                          try clear c24b1
                          try clear c25
                          try clear c25b0
                          try clear c25b1
                          try clear c27
                          try clear c27b0
                          try clear c27b1
                          try clear c28
                          try clear c28b0
                          try clear c30
                          try clear c30b0
                          try clear c31
                          try clear c31b0
                          try clear c32
                          try clear c41
                          try clear c41b0
                          try clear c41b1
                          try clear c44
                          try clear hx1087_0
                          try clear p1
                          try clear p10
                          try clear p1087
                          try clear p2
                          try clear p6
                          try clear q1
                          try clear q10
                          try clear q1087
                          obtain ⟨x20_4, rfl, HA, HK4, HO_9, HO_14, HO_19, HB⟩ := hrel
                          cases gk with
                          | zero => exact absurd HA.out (by simp [tidelineref06_read.l2])
                          | succ k4 =>
                            have H := HA.out
                            clear HA
                            simp only [tidelineref06_read.l2] at H
                            by_cases c45 : x20_4 < (x9_1.length : Int)
                            · rw [if_pos c45] at H
                              have c45b0 : decide (x20_4 < (x9_1.length : Int)) = true := decide_eq_true c45
                              clear c45
                              by_cases c46 : 0 ≤ x20_4
                              · rw [if_pos c46] at H
                                have c46b0 : decide (0 ≤ x20_4) = true := decide_eq_true c46
                                clear c46
                                by_cases c47 : x20_4 < (t1091.length : Int)
                                · rw [if_pos c47] at H
                                  have c47b0 : decide (x20_4 < (t1091.length : Int)) = true := decide_eq_true c47
                                  clear c47
                                  by_cases c48 : (rdOf ByteArray.empty t1091 x20_4).toList = (rdOf ByteArray.empty x9_1 x20_4).toList
                                  · rw [if_pos c48] at H
                                    have c48b0 : ((rdOf ByteArray.empty t1091 x20_4).toList == (rdOf ByteArray.empty x9_1 x20_4).toList) = true := beq_iff_eq.mpr c48
                                    have c48b1 : ((rdOf ByteArray.empty t1091 x20_4).toList != (rdOf ByteArray.empty x9_1 x20_4).toList) = false := bne_eq_false_iff_eq.mpr c48
                                    clear c48
                                    have H' := Aside0.mk H
                                    clear H
                                    obtain ⟨Ao49, co49, eo49⟩ := Kd.R_slice HO_9.out
                                    subst eo49
                                    obtain ⟨Ao50, co50, eo50⟩ := Kd.R_slice HO_19.out
                                    subst eo50
                                    have p1094 : 0 ≤ (x20_4 : Int) := of_decide_eq_true (by first | (with_reducible assumption) | assumption)
                                    have q1094 : x20_4 < (t1091.length : Int) := of_decide_eq_true (by first | (with_reducible assumption) | assumption)
                                    obtain ⟨ad1094, e1094, hx1094_0⟩ := Kd.at_string (Kd.R_reads' HO_19.out).2.2 x20_4 p1094 q1094
                                    cases e1094
                                    replace p1094 := eq_true p1094
                                    replace q1094 := eq_true q1094
                                    have p1095 : 0 ≤ (x20_4 : Int) := of_decide_eq_true (by first | (with_reducible assumption) | assumption)
                                    have q1095 : x20_4 < (x9_1.length : Int) := of_decide_eq_true (by first | (with_reducible assumption) | assumption)
                                    obtain ⟨ad1095, e1095, hx1095_0⟩ := Kd.at_string (Kd.R_reads' HO_9.out).2.2 x20_4 p1095 q1095
                                    cases e1095
                                    replace p1095 := eq_true p1095
                                    replace q1095 := eq_true q1095
                                    go_wp2
                                    repeat (go_quiet (fail); try go_wp2)
                                    go_roundg k4
                                    case measure => have := HK1.out; have := HK2.out; have := HJ37.out; have := HK4.out; omega
                                    case rel => exact ⟨(wrap64 (x20_4 + 1)), (by first | rfl | (simp; done) | (simp [*]; done)), H', ⟨by have := HK1.out; have := HK2.out; have := HJ37.out; have := HK4.out; omega⟩, ⟨by (with_reducible repeat (first | apply Kd.R_alloc | apply Kd.R_drewN | apply Kd.R_drew)); exact HO_9.out⟩, ⟨by (with_reducible repeat (first | apply Kd.R_alloc | apply Kd.R_drewN | apply Kd.R_drew)); exact HO_14.out⟩, ⟨by (with_reducible repeat (first | apply Kd.R_alloc | apply Kd.R_drewN | apply Kd.R_drew)); exact HO_19.out⟩, ⟨by repeat (first | (with_reducible first | exact HB.out | apply below_alloc | apply pw_below_drewN | apply below_drew1) | exact HB.out)⟩⟩
                                  · rw [if_neg c48] at H
                                    have c48b0 : ((rdOf ByteArray.empty t1091 x20_4).toList == (rdOf ByteArray.empty x9_1 x20_4).toList) = false := beq_eq_false_iff_ne.mpr c48
                                    have c48b1 : ((rdOf ByteArray.empty t1091 x20_4).toList != (rdOf ByteArray.empty x9_1 x20_4).toList) = true := bne_iff_ne.mpr c48
                                    simp only [Option.some.injEq, Prod.mk.injEq] at H
                                    obtain ⟨rfl, rfl⟩ := H
                                    obtain ⟨Ao51, co51, eo51⟩ := Kd.R_slice HO_9.out
                                    subst eo51
                                    obtain ⟨Ao52, co52, eo52⟩ := Kd.R_slice HO_19.out
                                    subst eo52
                                    have p1094 : 0 ≤ (x20_4 : Int) := of_decide_eq_true (by first | (with_reducible assumption) | assumption)
                                    have q1094 : x20_4 < (t1091.length : Int) := of_decide_eq_true (by first | (with_reducible assumption) | assumption)
                                    obtain ⟨ad1094, e1094, hx1094_0⟩ := Kd.at_string (Kd.R_reads' HO_19.out).2.2 x20_4 p1094 q1094
                                    cases e1094
                                    replace p1094 := eq_true p1094
                                    replace q1094 := eq_true q1094
                                    have p1095 : 0 ≤ (x20_4 : Int) := of_decide_eq_true (by first | (with_reducible assumption) | assumption)
                                    have q1095 : x20_4 < (x9_1.length : Int) := of_decide_eq_true (by first | (with_reducible assumption) | assumption)
                                    obtain ⟨ad1095, e1095, hx1095_0⟩ := Kd.at_string (Kd.R_reads' HO_9.out).2.2 x20_4 p1095 q1095
                                    cases e1095
                                    replace p1095 := eq_true p1095
                                    replace q1095 := eq_true q1095
                                    go_wp2
                                    repeat (go_quiet (fail); try go_wp2)
                                    go_ret2
                                    exact ⟨_, by first | rfl | (simp [errW_none, errW_some] <;> rfl) | (simp [*, errW_none, errW_some] <;> rfl), by first | exact Kd.R_nil _ _ _ _ _ | exact Kd.N_nil _ _ _ _ _ | exact Kd.V_nil _ _ _ _ _ | exact Kd.Q_nil _ _ _ _ _ | exact Kd.S_nil _ _ _ _ _, by repeat (first | (with_reducible first | exact HB.out | apply below_alloc | apply pw_below_drewN | apply below_drew1) | exact HB.out)⟩
                                · rw [if_neg c47] at H
                                  exact absurd H (by simp)
                              · rw [if_neg c46] at H
                                exact absurd H (by simp)
                            · rw [if_neg c45] at H
                              have c45b0 : decide (x20_4 < (x9_1.length : Int)) = false := decide_eq_false c45
                              clear c45
                              simp only [Option.some.injEq, Prod.mk.injEq] at H
                              obtain ⟨rfl, rfl⟩ := H
                              obtain ⟨Ao53, co53, eo53⟩ := Kd.R_slice HO_9.out
                              subst eo53
                              go_wp2
                              repeat (go_quiet (fail); try go_wp2)
                              go_ret2
                              exact ⟨_, by first | rfl | (simp [errW_none, errW_some] <;> rfl) | (simp [*, errW_none, errW_some] <;> rfl), by (with_reducible repeat (first | apply Kd.R_alloc | apply Kd.R_drewN | apply Kd.R_drew)); exact HO_14.out, by repeat (first | (with_reducible first | exact HB.out | apply below_alloc | apply pw_below_drewN | apply below_drew1) | exact HB.out)⟩
  · rw [if_neg c4] at H
    have c4b0 : (t1074 == 0) = false := beq_eq_false_iff_ne.mpr c4
    have c4b1 : (t1074 != 0) = true := bne_iff_ne.mpr c4
    simp only [Option.some.injEq, Prod.mk.injEq] at H
    obtain ⟨rfl, rfl⟩ := H
    go_enter Try.func146, Try.ntmps146
    go_wp2_with (first | (go_at_call 108; (with_reducible refine (tidelineref02_Get.calls k _ _ l0 t1072 t1073 t1074 _ ?side1 ?side2 A3.out).mono ?_); (case side1 => repeat (first | exact HR0.out | (with_reducible refine Kd.C_alloc ?_ _) | (with_reducible refine Kd.C_drewN ?_ _) | (with_reducible refine Kd.C_drew ?_))); (case side2 => exact HC0.out); rintro e w' ⟨rfl, ⟨nd, rfl⟩⟩; (try first | exact ⟨rfl, _, World.drewN_drewN _ _ _⟩ | exact ⟨rfl, _, Eq.trans (World.drewN_drewN _ _ _) (congrArg (World.drewN _) (Nat.add_assoc _ _ _))⟩)))
    repeat (go_quiet (first | (go_at_call 108; (with_reducible refine (tidelineref02_Get.calls k _ _ l0 t1072 t1073 t1074 _ ?side1 ?side2 A3.out).mono ?_); (case side1 => repeat (first | exact HR0.out | (with_reducible refine Kd.C_alloc ?_ _) | (with_reducible refine Kd.C_drewN ?_ _) | (with_reducible refine Kd.C_drew ?_))); (case side2 => exact HC0.out); rintro e w' ⟨rfl, ⟨nd, rfl⟩⟩; (try first | exact ⟨rfl, _, World.drewN_drewN _ _ _⟩ | exact ⟨rfl, _, Eq.trans (World.drewN_drewN _ _ _) (congrArg (World.drewN _) (Nat.add_assoc _ _ _))⟩))); try go_wp2_with (first | (go_at_call 108; (with_reducible refine (tidelineref02_Get.calls k _ _ l0 t1072 t1073 t1074 _ ?side1 ?side2 A3.out).mono ?_); (case side1 => repeat (first | exact HR0.out | (with_reducible refine Kd.C_alloc ?_ _) | (with_reducible refine Kd.C_drewN ?_ _) | (with_reducible refine Kd.C_drew ?_))); (case side2 => exact HC0.out); rintro e w' ⟨rfl, ⟨nd, rfl⟩⟩; (try first | exact ⟨rfl, _, World.drewN_drewN _ _ _⟩ | exact ⟨rfl, _, Eq.trans (World.drewN_drewN _ _ _) (congrArg (World.drewN _) (Nat.add_assoc _ _ _))⟩))))
    go_ret2
    exact ⟨_, by first | rfl | (simp [errW_none, errW_some] <;> rfl) | (simp [*, errW_none, errW_some] <;> rfl), by first | exact Kd.R_nil _ _ _ _ _ | exact Kd.N_nil _ _ _ _ _ | exact Kd.V_nil _ _ _ _ _ | exact Kd.Q_nil _ _ _ _ _ | exact Kd.S_nil _ _ _ _ _, by repeat (first | (with_reducible first | exact HB.out | apply below_alloc | apply pw_below_drewN | apply below_drew1) | exact HB.out)⟩

end Go.Proofs.Ytlmcefhpnfoahaa.P
end

section
namespace Go.Proofs.Ytlmcefhpnfoahaa.P
open Go.RowKit Go.Proofs.YtlmcefhpnfoahaaW.PrintWords Go.Proofs.YtlmcefhpnfoahaaW.PrintLast Go.Proofs.YtlmcefhpnfoahaaW.PrintMore
attribute [local go_sem] max2_int min2_int max_two min_two max_three min_three max_four min_four   -- for this text's walks alone
set_option linter.unusedVariables false
set_option linter.unusedSimpArgs false

mutual
def tidelineref06_marks.l0 : Nat → Int → Int → List (S39) → List Bool → Int → Option ((List (S39)) × Int)
  | 0, _, _, _, _, _ => none
  | k + 1, x0, x2, x8, x9, x12 => if x12 < x2 then (if 0 ≤ x12 then (if x12 < (x9.length : Int) then (if rdOf false x9 x12 = true then (if x8.length < 4398046511104 then (tidelineref06_marks.l0 k x0 x2 (x8 ++ [(⟨x0, 1, (⟨#[]⟩ : ByteArray)⟩ : S39)]) x9 (wrap64 (x12 + 1))) else (none)) else (if x8.length < 4398046511104 then (tidelineref06_marks.l0 k x0 x2 (x8 ++ [(⟨x0, 0, (⟨#[]⟩ : ByteArray)⟩ : S39)]) x9 (wrap64 (x12 + 1))) else (none))) else (none)) else (none)) else (some (x8, 0))
def tidelineref06_marks.l1 : Nat → Int → Int → List (S39) → List Int → Int → Option ((List (S39)) × Int)
  | 0, _, _, _, _, _ => none
  | k + 1, x0, x2, x8, x14, x16 => if x16 < x2 then (if 0 ≤ x16 then (if x16 < (x14.length : Int) then (if x8.length < 4398046511104 then (tidelineref06_marks.l1 k x0 x2 (x8 ++ [(⟨x0, rd x14 x16, (⟨#[]⟩ : ByteArray)⟩ : S39)]) x14 (wrap64 (x16 + 1))) else (none)) else (none)) else (none)) else (some (x8, 0))
end
def tidelineref06_marks.f (k : Nat) (a0 : Int) (l1 : List Int) (a2 : Int) : Option ((List (S39)) × Int) := if a0 = 1 then ((tidelineref06_bits.f k l1 a2).bind fun bt1081 => (if bt1081.2.2 = 0 then (if bt1081.2.1 = (l1.length : Int) then (tidelineref06_marks.l0 k a0 a2 ([] : List (S39)) bt1081.1 0) else (some (([] : List (S39)), 21))) else (some (([] : List (S39)), bt1081.2.2)))) else (if a0 = 2 then ((tidelineref05_Get.f k l1 a2).bind fun bt1094 => (if bt1094.2 = 0 then (tidelineref06_marks.l1 k a0 a2 ([] : List (S39)) bt1094.1 0) else (some (([] : List (S39)), bt1094.2)))) else ((tidelineref06_read.f k l1 a2).bind fun bt1102 => (some (bt1102.1, bt1102.2))))
set_option maxHeartbeats 8000000 in
set_option maxRecDepth 100000 in
theorem tidelineref06_marks.calls (k : Nat) (a0 : Int) (A1 : Option Addr) (c1 : Nat) (l1 : List Int) (a2 : Int) (r1 : List (S39)) (r2 : Int) (w : World) (hr1 : Kd.C (Kd.int .u8) w A1 l1.length l1) (hc1 : l1.length ≤ c1) (h : tidelineref06_marks.f k a0 l1 a2 = some (r1, r2)) :
    Calls Try.prog 103 #[.int .u8 a0, .slice A1 l1.length c1, .int .i64 a2] w fun e w' => ∃ v0_ : Value, e = .returned (.tuple #[v0_, .int .i64 r2]) ∧ Kd.R k39 39 w' w.heap.size (fun _ => True) v0_ r1 ∧ Below w.heap.size w w' := by
  have hu39 := Try.underlying39
  have HR1 := Aside0.mk hr1
  have HC1 := Aside0.mk hc1
  clear hr1 hc1
  have HB := Aside0.mk (Below.refl w.heap.size w)
  have H : (if a0 = 1 then ((tidelineref06_bits.f k l1 a2).bind fun bt1081 => (if bt1081.2.2 = 0 then (if bt1081.2.1 = (l1.length : Int) then (tidelineref06_marks.l0 k a0 a2 ([] : List (S39)) bt1081.1 0) else (some (([] : List (S39)), 21))) else (some (([] : List (S39)), bt1081.2.2)))) else (if a0 = 2 then ((tidelineref05_Get.f k l1 a2).bind fun bt1094 => (if bt1094.2 = 0 then (tidelineref06_marks.l1 k a0 a2 ([] : List (S39)) bt1094.1 0) else (some (([] : List (S39)), bt1094.2)))) else ((tidelineref06_read.f k l1 a2).bind fun bt1102 => (some (bt1102.1, bt1102.2))))) = some (r1, r2) := h
  clear h
  by_cases c4 : a0 = 1
  · rw [if_pos c4] at H
    have c4b0 : (a0 == 1) = true := beq_iff_eq.mpr c4
    have c4b1 : (a0 != 1) = false := bne_eq_false_iff_eq.mpr c4
    clear c4
    replace H := Option.bind_eq_some_iff.mp H
    obtain ⟨⟨t1081, t1082, t1083⟩, A50, H⟩ := H
    replace H : (if t1083 = 0 then (if t1082 = (l1.length : Int) then (tidelineref06_marks.l0 k a0 a2 ([] : List (S39)) t1081 0) else (some (([] : List (S39)), 21))) else (some (([] : List (S39)), t1083))) = some (r1, r2) := H
    have A5 := Aside0.mk A50
    clear A50
    by_cases c6 : t1083 = 0
    · rw [if_pos c6] at H
      have c6b0 : (t1083 == 0) = true := beq_iff_eq.mpr c6
      have c6b1 : (t1083 != 0) = false := bne_eq_false_iff_eq.mpr c6
      clear c6
      by_cases c7 : t1082 = (l1.length : Int)
      · rw [if_pos c7] at H
        have c7b0 : (t1082 == (l1.length : Int)) = true := beq_iff_eq.mpr c7
        have c7b1 : (t1082 != (l1.length : Int)) = false := bne_eq_false_iff_eq.mpr c7
        clear c7
        have H' := Aside0.mk H
        clear H
        go_enter Try.func103, Try.ntmps103
        go_wp2_with (first | ((with_reducible refine gate_callee (f := 102) rfl ?_); refine goesL_ (some 28) rfl rfl Try.func102 (by kernel_rfl) rfl #[.slice A1 l1.length c1, .int .i64 a2] rfl (by (try simp only [List.map_toArray, List.map_cons, List.map_nil]); first | done | rfl | (simp only [List.length_drop, List.length_take]; rfl)) ?_; (with_reducible refine (tidelineref06_bits.calls k _ _ l1 a2 t1081 t1082 t1083 _ ?side1 ?side2 A5.out).mono ?_); (case side1 => repeat (first | exact HR1.out | (with_reducible refine Kd.C_alloc ?_ _) | (with_reducible refine Kd.C_drewN ?_ _) | (with_reducible refine Kd.C_drew ?_))); (case side2 => exact HC1.out); rintro e w8 ⟨v1084, rfl, ho0, hb⟩; refine ⟨_, rfl, ?_⟩; have n0_ := Aside0.mk (Kd.R_lower ho0 (below_size (by repeat (first | (with_reducible first | exact HB.out | apply below_alloc | apply pw_below_drewN | apply below_drew1) | exact HB.out)))); have n1_ := Aside0.mk (below_step (by repeat (first | (with_reducible first | exact HB.out | apply below_alloc | apply pw_below_drewN | apply below_drew1) | exact HB.out)) hb); clear HB; have HO1085 := n0_; have HB := n1_; clear n0_ n1_; (try clear hb); (try clear hb2); (try clear hk); (try clear hi); (try clear ho0)))
        go_loopg [8, 12] k (fun kq v8 v12 w' => ∃ (x8_1 : List (S39)) (x12_1 : Int), v12 = .int .i64 x12_1 ∧ Aside0 (tidelineref06_marks.l0 kq a0 a2 x8_1 t1081 x12_1 = some (r1, r2)) ∧ Aside0 (kq ≤ k) ∧ Aside0 (Kd.R k39 39 w' w.heap.size (fun _ => True) v8 x8_1) ∧ Aside0 (Kd.R Kd.bool 4 w' w.heap.size (fun _ => True) v1084 t1081) ∧ Aside0 (Below w.heap.size w w'))
        case atStart => exact ⟨(([] : List (S39))), (0), (by first | rfl | (simp; done) | (simp [*]; done)), H', ⟨Nat.le_refl _⟩, ⟨by first | exact Kd.R_nil _ _ _ _ _ | exact Kd.N_nil _ _ _ _ _ | exact Kd.V_nil _ _ _ _ _ | exact Kd.Q_nil _ _ _ _ _ | exact Kd.S_nil _ _ _ _ _⟩, ⟨by (with_reducible repeat (first | apply Kd.R_alloc | apply Kd.R_drewN | apply Kd.R_drew)); exact HO1085.out⟩, ⟨by repeat (first | (with_reducible first | exact HB.out | apply below_alloc | apply pw_below_drewN | apply below_drew1) | exact HB.out)⟩⟩
        case round =>
          clear H'
          try clear c1
          try clear p2
          try clear c4
          try clear c4b0
          try clear c4b1
          try clear c6
          try clear c6b0
          try clear c6b1
          try clear c7
          try clear c7b0
          try clear c7b1
          obtain ⟨x8_1, x12_1, rfl, HA, HK1, HO_8, HO_9, HB⟩ := hrel
          cases gk with
          | zero => exact absurd HA.out (by simp [tidelineref06_marks.l0])
          | succ k1 =>
            have H := HA.out
            clear HA
            simp only [tidelineref06_marks.l0] at H
            by_cases c9 : x12_1 < a2
            · rw [if_pos c9] at H
              have c9b0 : decide (x12_1 < a2) = true := decide_eq_true c9
              clear c9
              by_cases c10 : 0 ≤ x12_1
              · rw [if_pos c10] at H
                have c10b0 : decide (0 ≤ x12_1) = true := decide_eq_true c10
                clear c10
                by_cases c11 : x12_1 < (t1081.length : Int)
                · rw [if_pos c11] at H
                  have c11b0 : decide (x12_1 < (t1081.length : Int)) = true := decide_eq_true c11
                  clear c11
                  obtain ⟨bq12, hbq12⟩ : ∃ b_ : Bool, b_ = (rdOf false t1081 x12_1) := ⟨_, rfl⟩
                  replace H : (if bq12 = true then (if x8_1.length < 4398046511104 then (tidelineref06_marks.l0 k1 a0 a2 (x8_1 ++ [(⟨a0, 1, (⟨#[]⟩ : ByteArray)⟩ : S39)]) t1081 (wrap64 (x12_1 + 1))) else (none)) else (if x8_1.length < 4398046511104 then (tidelineref06_marks.l0 k1 a0 a2 (x8_1 ++ [(⟨a0, 0, (⟨#[]⟩ : ByteArray)⟩ : S39)]) t1081 (wrap64 (x12_1 + 1))) else (none))) = some (r1, r2) := by rw [← hbq12] at H; exact H
                  have Nbq12 := Aside0.mk hbq12
                  clear hbq12
                  by_cases c13 : bq12 = true
                  · subst c13
                    have H1 : (if x8_1.length < 4398046511104 then (tidelineref06_marks.l0 k1 a0 a2 (x8_1 ++ [(⟨a0, 1, (⟨#[]⟩ : ByteArray)⟩ : S39)]) t1081 (wrap64 (x12_1 + 1))) else (none)) = some (r1, r2) := by rw [if_pos rfl] at H; exact H
                    clear H
                    have H := H1
                    clear H1
                    by_cases c14 : x8_1.length < 4398046511104
                    · rw [if_pos c14] at H
                      have LMc14 := Aside0.mk c14
                      clear c14
                      obtain ⟨y1088, hy1088⟩ : ∃ y_ : List (S39), y_ = (x8_1 ++ [(⟨a0, 1, (⟨#[]⟩ : ByteArray)⟩ : S39)]) := ⟨_, rfl⟩
                      replace H : (tidelineref06_marks.l0 k1 a0 a2 y1088 t1081 (wrap64 (x12_1 + 1))) = some (r1, r2) := by first | (rw [hy1088]; with_reducible exact H) | (have H2_ := (Option.bind_some _ _).symm.trans H; rw [hy1088]; with_reducible exact H2_) | (have H2_ := (Option.bind_some _ _).symm.trans H; with_reducible exact H2_) | with_reducible exact H | (rw [hy1088]; exact H) | exact H
                      have Ny1088 := Aside0.mk hy1088
                      clear hy1088
                      have H' := Aside0.mk H
                      clear H
                      go_wp2_with (first | ((with_reducible refine gate_dst (N := 13) rfl ?_); refine box_event ?hg (N := 13) ?hd (cs := #[.int .u8 0, .int .i64 0, .string (⟨#[]⟩ : ByteArray)]) (t := 39) ?hr ?_; (case hd => rfl); (case hg => rfl); (case hr => first | (go_simp; done) | (go_simp; rfl)); intro gb1086 hg w15 hbox hb; have n0_ := Aside0.mk (Kd.R_below (Kd.R_elderB (by (with_reducible repeat (first | apply Kd.R_alloc | apply Kd.R_drewN | apply Kd.R_drew)); exact HO_8.out) gb1086 (Nat.le_of_eq hg.symm)) hb); have n1_ := Aside0.mk (Kd.R_below (by (with_reducible repeat (first | apply Kd.R_alloc | apply Kd.R_drewN | apply Kd.R_drew)); exact HO_9.out) hb); have n2_ := Aside0.mk (below_step (by repeat (first | (with_reducible first | exact HB.out | apply below_alloc | apply pw_below_drewN | apply below_drew1) | exact HB.out)) hb); have n3_ := Aside0.mk (hbox); have n4_ := Aside0.mk ((by rw [hg]; exact (below_size (by repeat (first | (with_reducible first | exact HB.out | apply below_alloc | apply pw_below_drewN | apply below_drew1) | exact HB.out))) : w.heap.size ≤ gb1086)); have n5_ := Aside0.mk ((by rw [hg]; exact (below_size (by repeat (first | (with_reducible first | exact HB.out | apply below_alloc | apply pw_below_drewN | apply below_drew1) | exact HB.out))) : w.heap.size ≤ gb1086)); clear HO_8; clear HO_9; clear HB; have HO_8 := n0_; have HO_9 := n1_; have HB := n2_; have BK1086 := n3_; have GW1086 := n4_; have GE1086 := n5_; clear n0_ n1_ n2_ n3_ n4_ n5_; clear hb hbox hg; have hcz16_0 : w15.cell? ⟨gb1086, 0, none⟩ = some (.int .u8 0) := (blk_cell BK1086.out 0).trans rfl; have hcz16_1 : w15.cell? ⟨gb1086, 1, none⟩ = some (.int .i64 0) := (blk_cell BK1086.out 1).trans rfl; have hcz16_2 : w15.cell? ⟨gb1086, 2, none⟩ = some (.string (⟨#[]⟩ : ByteArray)) := (blk_cell BK1086.out 2).trans rfl; have hfz16_0 := blk_frozen BK1086.out 0; have hfz16_1 := blk_frozen BK1086.out 1; have hfz16_2 := blk_frozen BK1086.out 2; have hb4_ : ((((w15.setCell ⟨gb1086, 0, none⟩ (.int .u8 a0)).setCell ⟨gb1086, 1, none⟩ (.int .i64 0)).setCell ⟨gb1086, 2, none⟩ (.string (⟨#[]⟩ : ByteArray))).setCell ⟨gb1086, 1, none⟩ (.int .i64 1)).heap[gb1086]? = some (.cells #[.int .u8 a0, .int .i64 1, .string (⟨#[]⟩ : ByteArray)] 39 (0, 0)) := blk_put (cs := #[.int .u8 a0, .int .i64 0, .string (⟨#[]⟩ : ByteArray)]) (blk_put (cs := #[.int .u8 a0, .int .i64 0, .string (⟨#[]⟩ : ByteArray)]) (blk_put (cs := #[.int .u8 a0, .int .i64 0, .string (⟨#[]⟩ : ByteArray)]) (blk_put (cs := #[.int .u8 0, .int .i64 0, .string (⟨#[]⟩ : ByteArray)]) BK1086.out 0 _ rfl) 1 _ rfl) 2 _ rfl) 1 _ rfl; have hq4_0 := (blk_cell hb4_ 0).trans (show _ = some (Value.int .u8 a0) from rfl); have hq4_1 := (blk_cell hb4_ 1).trans (show _ = some (Value.int .i64 1) from rfl); have hq4_2 := (blk_cell hb4_ 2).trans (show _ = some (Value.string (⟨#[]⟩ : ByteArray)) from rfl); clear hb4_; obtain ⟨Ao17, co17, eo17⟩ := Kd.R_slice HO_9.out; subst eo17; have p1087 : 0 ≤ (x12_1 : Int) := of_decide_eq_true (by first | (with_reducible assumption) | assumption); have q1087 : x12_1 < (t1081.length : Int) := of_decide_eq_true (by first | (with_reducible assumption) | assumption); obtain ⟨ad1087, e1087, hx1087_0⟩ := Kd.at_bool (Kd.R_reads' HO_9.out).2.2 x12_1 p1087 q1087; (try rw [← Nbq12.out] at hx1087_0); cases e1087; have hn1087_0 : ad1087.block ≠ gb1086 := Kd.own_blk (Kd.R_ne HO_9.out BK1086.out (by decide)); have hn1087_1 : ad1087.block ≠ gb1086 := Kd.own_blk (Kd.R_ne HO_9.out BK1086.out (by decide)); have hn1087_2 : ad1087.block ≠ gb1086 := Kd.own_blk (Kd.R_ne HO_9.out BK1086.out (by decide)); replace hx1087_0 := (cell_far (p := ⟨gb1086, 0, none⟩) (by first | (rw [add_block]; exact hn1087_0) | (show (Addr.add _ _).block ≠ _; rw [add_block]; exact hn1087_0) | exact hn1087_0) (.int .u8 a0)).trans hx1087_0; replace hx1087_0 := (cell_far (p := ⟨gb1086, 1, none⟩) (by first | (rw [add_block]; exact hn1087_1) | (show (Addr.add _ _).block ≠ _; rw [add_block]; exact hn1087_1) | exact hn1087_1) (.int .i64 0)).trans hx1087_0; replace hx1087_0 := (cell_far (p := ⟨gb1086, 2, none⟩) (by first | (rw [add_block]; exact hn1087_2) | (show (Addr.add _ _).block ≠ _; rw [add_block]; exact hn1087_2) | exact hn1087_2) (.string (⟨#[]⟩ : ByteArray))).trans hx1087_0; clear hn1087_0; clear hn1087_1; clear hn1087_2; replace p1087 := eq_true p1087; replace q1087 := eq_true q1087) | ((with_reducible refine gate_builtin (b := .append) (xs := #[.tmp 51, .tmp 53]) rfl ?_); at_builtin; refine Kd.R_append k39 (w0 := w) w.heap.size rfl (.tmp 51) (.tmp 53) 23 39 (.agg #[(.int .u8 0), (.int .i64 0), (.string ⟨#[]⟩)]) 32 rfl Try.underlying23 info39 rfl (by decide) (by omega) u8 x8_1 (⟨a0, 1, (⟨#[]⟩ : ByteArray)⟩ : S39) [.int .u8 a0, .int .i64 1, .string (⟨#[]⟩ : ByteArray)] (fun k_ => k_ ≠ gb1086) (fun _ => False) rfl (by first | (go_simp; done) | (go_simp; rfl)) ?aP (fun _ hk => hk.elim) ?aF ?aO ?aB ?aS ?aL ?_; (case aP => exact k39_mkM _ _ _ (⟨a0, 1, (⟨#[]⟩ : ByteArray)⟩ : S39)); (case aB => exact (by repeat (first | (with_reducible first | exact HB.out | apply below_alloc | apply pw_below_drewN | apply below_drew1 | refine below_set ?_ GE1086.out) | exact HB.out))); (case aF => exact (fun k_ hk => Kd.freshB (g := gb1086) (o := .cells #[.int .u8 a0, .int .i64 1, .string (⟨#[]⟩ : ByteArray)] 39 (0, 0)) (by (with_reducible repeat (first | refine blk_drewN ?_ _ | refine blk_drew ?_ | refine blk_alloc ?_ _)); refine blk_put (cs := #[.int .u8 a0, .int .i64 0, .string (⟨#[]⟩ : ByteArray)]) ?_ 1 _ rfl; (with_reducible repeat (first | refine blk_drewN ?_ _ | refine blk_drew ?_ | refine blk_alloc ?_ _)); refine blk_put (cs := #[.int .u8 a0, .int .i64 0, .string (⟨#[]⟩ : ByteArray)]) ?_ 2 _ rfl; (with_reducible repeat (first | refine blk_drewN ?_ _ | refine blk_drew ?_ | refine blk_alloc ?_ _)); refine blk_put (cs := #[.int .u8 a0, .int .i64 0, .string (⟨#[]⟩ : ByteArray)]) ?_ 1 _ rfl; (with_reducible repeat (first | refine blk_drewN ?_ _ | refine blk_drew ?_ | refine blk_alloc ?_ _)); refine blk_put (cs := #[.int .u8 0, .int .i64 0, .string (⟨#[]⟩ : ByteArray)]) ?_ 0 _ rfl; (with_reducible repeat (first | refine blk_drewN ?_ _ | refine blk_drew ?_ | refine blk_alloc ?_ _)); exact BK1086.out) k_ hk)); (case aO => exact (by (with_reducible repeat (first | apply Kd.R_alloc | apply Kd.R_drewN | apply Kd.R_drew)); exact Kd.R_mono (Kd.R_far (p := ⟨gb1086, 1, none⟩) (Kd.R_far (p := ⟨gb1086, 2, none⟩) (Kd.R_far (p := ⟨gb1086, 1, none⟩) (Kd.R_far (p := ⟨gb1086, 0, none⟩) (Kd.R_mono HO_8.out (fun k_ hk => (⟨hk, hk.2⟩ : _ ∧ k_ ≠ gb1086))) (fun _ hk => hk.2) (.int .u8 a0)) (fun _ hk => hk.2) (.int .i64 0)) (fun _ hk => hk.2) (.string (⟨#[]⟩ : ByteArray))) (fun _ hk => hk.2) (.int .i64 1)) (fun _ hk => hk.1.2))); (case aS => exact (below_size (by repeat (first | (with_reducible first | exact HB.out | apply below_alloc | apply pw_below_drewN | apply below_drew1 | refine below_set ?_ GE1086.out) | exact HB.out)))); (case aL => have := LMc14.out; omega); intro v1089 w18 ho hb hg hat; rw [← Ny1088.out] at ho; have n0_ := Aside0.mk (Kd.R_over' (by (with_reducible repeat (first | apply Kd.R_alloc | apply Kd.R_drewN | apply Kd.R_drew)); exact (Kd.R_mono (Kd.R_far (p := ⟨gb1086, 1, none⟩) (Kd.R_far (p := ⟨gb1086, 2, none⟩) (Kd.R_far (p := ⟨gb1086, 1, none⟩) (Kd.R_far (p := ⟨gb1086, 0, none⟩) (Kd.R_types HO_9.out BK1086.out (by decide)) (fun _ hk => hk.2) (.int .u8 a0)) (fun _ hk => hk.2) (.int .i64 0)) (fun _ hk => hk.2) (.string (⟨#[]⟩ : ByteArray))) (fun _ hk => hk.2) (.int .i64 1)) (fun _ h_ => h_.1))) (Kd.R_typed (by (with_reducible repeat (first | apply Kd.R_alloc | apply Kd.R_drewN | apply Kd.R_drew)); exact (Kd.R_mono (Kd.R_far (p := ⟨gb1086, 1, none⟩) (Kd.R_far (p := ⟨gb1086, 2, none⟩) (Kd.R_far (p := ⟨gb1086, 1, none⟩) (Kd.R_far (p := ⟨gb1086, 0, none⟩) (Kd.R_mono HO_8.out (fun k_ hk => (⟨hk, hk.2⟩ : _ ∧ k_ ≠ gb1086))) (fun _ hk => hk.2) (.int .u8 a0)) (fun _ hk => hk.2) (.int .i64 0)) (fun _ hk => hk.2) (.string (⟨#[]⟩ : ByteArray))) (fun _ hk => hk.2) (.int .i64 1)) (fun _ h_ => h_.1)))) (by decide) hg); have n1_ := Aside0.mk (blk_grown (g := gb1086) (o := .cells #[.int .u8 a0, .int .i64 1, .string (⟨#[]⟩ : ByteArray)] 39 (0, 0)) (by (with_reducible repeat (first | refine blk_drewN ?_ _ | refine blk_drew ?_ | refine blk_alloc ?_ _)); refine blk_put (cs := #[.int .u8 a0, .int .i64 0, .string (⟨#[]⟩ : ByteArray)]) ?_ 1 _ rfl; (with_reducible repeat (first | refine blk_drewN ?_ _ | refine blk_drew ?_ | refine blk_alloc ?_ _)); refine blk_put (cs := #[.int .u8 a0, .int .i64 0, .string (⟨#[]⟩ : ByteArray)]) ?_ 2 _ rfl; (with_reducible repeat (first | refine blk_drewN ?_ _ | refine blk_drew ?_ | refine blk_alloc ?_ _)); refine blk_put (cs := #[.int .u8 a0, .int .i64 0, .string (⟨#[]⟩ : ByteArray)]) ?_ 1 _ rfl; (with_reducible repeat (first | refine blk_drewN ?_ _ | refine blk_drew ?_ | refine blk_alloc ?_ _)); refine blk_put (cs := #[.int .u8 0, .int .i64 0, .string (⟨#[]⟩ : ByteArray)]) ?_ 0 _ rfl; (with_reducible repeat (first | refine blk_drewN ?_ _ | refine blk_drew ?_ | refine blk_alloc ?_ _)); exact BK1086.out) hg (Kd.R_away HO_8.out (fun _ hk => hk.2))); have n2_ := Aside0.mk (hb); have n3_ := Aside0.mk (ho); clear HO_9; clear BK1086; clear HB; clear HO_8; have HO_9 := n0_; have BK1086 := n1_; have HB := n2_; have HO1090 := n3_; clear n0_ n1_ n2_ n3_; clear ho hb hg hat))
                      go_roundg k1
                      case measure => have := HK1.out; omega
                      case rel => exact ⟨(y1088), (wrap64 (x12_1 + 1)), (by first | rfl | (simp; done) | (simp [*]; done)), H', ⟨by have := HK1.out; omega⟩, ⟨by (with_reducible repeat (first | apply Kd.R_alloc | apply Kd.R_drewN | apply Kd.R_drew)); exact Kd.R_mono HO1090.out (fun _ hk => trivial)⟩, ⟨by (with_reducible repeat (first | apply Kd.R_alloc | apply Kd.R_drewN | apply Kd.R_drew)); exact HO_9.out⟩, ⟨by repeat (first | (with_reducible first | exact HB.out | apply below_alloc | apply pw_below_drewN | apply below_drew1 | refine below_set ?_ GE1086.out) | exact HB.out)⟩⟩
                    · rw [if_neg c14] at H
                      exact absurd H (by simp)
                  · replace c13 := Bool.eq_false_iff.mpr c13
                    subst c13
                    have H1 : (if x8_1.length < 4398046511104 then (tidelineref06_marks.l0 k1 a0 a2 (x8_1 ++ [(⟨a0, 0, (⟨#[]⟩ : ByteArray)⟩ : S39)]) t1081 (wrap64 (x12_1 + 1))) else (none)) = some (r1, r2) := by rw [if_neg (show ¬ (false = true) by decide)] at H; exact H
                    clear H
                    have H := H1
                    clear H1
                    by_cases c19 : x8_1.length < 4398046511104
                    · rw [if_pos c19] at H
                      have LMc19 := Aside0.mk c19
                      clear c19
                      obtain ⟨y1091, hy1091⟩ : ∃ y_ : List (S39), y_ = (x8_1 ++ [(⟨a0, 0, (⟨#[]⟩ : ByteArray)⟩ : S39)]) := ⟨_, rfl⟩
                      replace H : (tidelineref06_marks.l0 k1 a0 a2 y1091 t1081 (wrap64 (x12_1 + 1))) = some (r1, r2) := by first | (rw [hy1091]; with_reducible exact H) | (have H2_ := (Option.bind_some _ _).symm.trans H; rw [hy1091]; with_reducible exact H2_) | (have H2_ := (Option.bind_some _ _).symm.trans H; with_reducible exact H2_) | with_reducible exact H | (rw [hy1091]; exact H) | exact H
                      have Ny1091 := Aside0.mk hy1091
                      clear hy1091
                      have H' := Aside0.mk H
                      clear H
                      go_wp2_with (first | ((with_reducible refine gate_dst (N := 13) rfl ?_); refine box_event ?hg (N := 13) ?hd (cs := #[.int .u8 0, .int .i64 0, .string (⟨#[]⟩ : ByteArray)]) (t := 39) ?hr ?_; (case hd => rfl); (case hg => rfl); (case hr => first | (go_simp; done) | (go_simp; rfl)); intro gb1086 hg w20 hbox hb; have n0_ := Aside0.mk (Kd.R_below (Kd.R_elderB (by (with_reducible repeat (first | apply Kd.R_alloc | apply Kd.R_drewN | apply Kd.R_drew)); exact HO_8.out) gb1086 (Nat.le_of_eq hg.symm)) hb); have n1_ := Aside0.mk (Kd.R_below (by (with_reducible repeat (first | apply Kd.R_alloc | apply Kd.R_drewN | apply Kd.R_drew)); exact HO_9.out) hb); have n2_ := Aside0.mk (below_step (by repeat (first | (with_reducible first | exact HB.out | apply below_alloc | apply pw_below_drewN | apply below_drew1) | exact HB.out)) hb); have n3_ := Aside0.mk (hbox); have n4_ := Aside0.mk ((by rw [hg]; exact (below_size (by repeat (first | (with_reducible first | exact HB.out | apply below_alloc | apply pw_below_drewN | apply below_drew1) | exact HB.out))) : w.heap.size ≤ gb1086)); have n5_ := Aside0.mk ((by rw [hg]; exact (below_size (by repeat (first | (with_reducible first | exact HB.out | apply below_alloc | apply pw_below_drewN | apply below_drew1) | exact HB.out))) : w.heap.size ≤ gb1086)); clear HO_8; clear HO_9; clear HB; have HO_8 := n0_; have HO_9 := n1_; have HB := n2_; have BK1086 := n3_; have GW1086 := n4_; have GE1086 := n5_; clear n0_ n1_ n2_ n3_ n4_ n5_; clear hb hbox hg; have hcz21_0 : w20.cell? ⟨gb1086, 0, none⟩ = some (.int .u8 0) := (blk_cell BK1086.out 0).trans rfl; have hcz21_1 : w20.cell? ⟨gb1086, 1, none⟩ = some (.int .i64 0) := (blk_cell BK1086.out 1).trans rfl; have hcz21_2 : w20.cell? ⟨gb1086, 2, none⟩ = some (.string (⟨#[]⟩ : ByteArray)) := (blk_cell BK1086.out 2).trans rfl; have hfz21_0 := blk_frozen BK1086.out 0; have hfz21_1 := blk_frozen BK1086.out 1; have hfz21_2 := blk_frozen BK1086.out 2; obtain ⟨Ao22, co22, eo22⟩ := Kd.R_slice HO_9.out; subst eo22; have p1087 : 0 ≤ (x12_1 : Int) := of_decide_eq_true (by first | (with_reducible assumption) | assumption); have q1087 : x12_1 < (t1081.length : Int) := of_decide_eq_true (by first | (with_reducible assumption) | assumption); obtain ⟨ad1087, e1087, hx1087_0⟩ := Kd.at_bool (Kd.R_reads' HO_9.out).2.2 x12_1 p1087 q1087; (try rw [← Nbq12.out] at hx1087_0); cases e1087; have hn1087_0 : ad1087.block ≠ gb1086 := Kd.own_blk (Kd.R_ne HO_9.out BK1086.out (by decide)); have hn1087_1 : ad1087.block ≠ gb1086 := Kd.own_blk (Kd.R_ne HO_9.out BK1086.out (by decide)); have hn1087_2 : ad1087.block ≠ gb1086 := Kd.own_blk (Kd.R_ne HO_9.out BK1086.out (by decide)); replace hx1087_0 := (cell_far (p := ⟨gb1086, 0, none⟩) (by first | (rw [add_block]; exact hn1087_0) | (show (Addr.add _ _).block ≠ _; rw [add_block]; exact hn1087_0) | exact hn1087_0) (.int .u8 a0)).trans hx1087_0; replace hx1087_0 := (cell_far (p := ⟨gb1086, 1, none⟩) (by first | (rw [add_block]; exact hn1087_1) | (show (Addr.add _ _).block ≠ _; rw [add_block]; exact hn1087_1) | exact hn1087_1) (.int .i64 0)).trans hx1087_0; replace hx1087_0 := (cell_far (p := ⟨gb1086, 2, none⟩) (by first | (rw [add_block]; exact hn1087_2) | (show (Addr.add _ _).block ≠ _; rw [add_block]; exact hn1087_2) | exact hn1087_2) (.string (⟨#[]⟩ : ByteArray))).trans hx1087_0; clear hn1087_0; clear hn1087_1; clear hn1087_2; replace p1087 := eq_true p1087; replace q1087 := eq_true q1087) | ((with_reducible refine gate_builtin (b := .append) (xs := #[.tmp 51, .tmp 53]) rfl ?_); at_builtin; refine Kd.R_append k39 (w0 := w) w.heap.size rfl (.tmp 51) (.tmp 53) 23 39 (.agg #[(.int .u8 0), (.int .i64 0), (.string ⟨#[]⟩)]) 32 rfl Try.underlying23 info39 rfl (by decide) (by omega) u8 x8_1 (⟨a0, 0, (⟨#[]⟩ : ByteArray)⟩ : S39) [.int .u8 a0, .int .i64 0, .string (⟨#[]⟩ : ByteArray)] (fun k_ => k_ ≠ gb1086) (fun _ => False) rfl (by first | (go_simp; done) | (go_simp; rfl)) ?aP (fun _ hk => hk.elim) ?aF ?aO ?aB ?aS ?aL ?_; (case aP => exact k39_mkM _ _ _ (⟨a0, 0, (⟨#[]⟩ : ByteArray)⟩ : S39)); (case aB => exact (by repeat (first | (with_reducible first | exact HB.out | apply below_alloc | apply pw_below_drewN | apply below_drew1 | refine below_set ?_ GE1086.out) | exact HB.out))); (case aF => exact (fun k_ hk => Kd.freshB (g := gb1086) (o := .cells #[.int .u8 a0, .int .i64 0, .string (⟨#[]⟩ : ByteArray)] 39 (0, 0)) (by (with_reducible repeat (first | refine blk_drewN ?_ _ | refine blk_drew ?_ | refine blk_alloc ?_ _)); refine blk_put (cs := #[.int .u8 a0, .int .i64 0, .string (⟨#[]⟩ : ByteArray)]) ?_ 2 _ rfl; (with_reducible repeat (first | refine blk_drewN ?_ _ | refine blk_drew ?_ | refine blk_alloc ?_ _)); refine blk_put (cs := #[.int .u8 a0, .int .i64 0, .string (⟨#[]⟩ : ByteArray)]) ?_ 1 _ rfl; (with_reducible repeat (first | refine blk_drewN ?_ _ | refine blk_drew ?_ | refine blk_alloc ?_ _)); refine blk_put (cs := #[.int .u8 0, .int .i64 0, .string (⟨#[]⟩ : ByteArray)]) ?_ 0 _ rfl; (with_reducible repeat (first | refine blk_drewN ?_ _ | refine blk_drew ?_ | refine blk_alloc ?_ _)); exact BK1086.out) k_ hk)); (case aO => exact (by (with_reducible repeat (first | apply Kd.R_alloc | apply Kd.R_drewN | apply Kd.R_drew)); exact Kd.R_mono (Kd.R_far (p := ⟨gb1086, 2, none⟩) (Kd.R_far (p := ⟨gb1086, 1, none⟩) (Kd.R_far (p := ⟨gb1086, 0, none⟩) (Kd.R_mono HO_8.out (fun k_ hk => (⟨hk, hk.2⟩ : _ ∧ k_ ≠ gb1086))) (fun _ hk => hk.2) (.int .u8 a0)) (fun _ hk => hk.2) (.int .i64 0)) (fun _ hk => hk.2) (.string (⟨#[]⟩ : ByteArray))) (fun _ hk => hk.1.2))); (case aS => exact (below_size (by repeat (first | (with_reducible first | exact HB.out | apply below_alloc | apply pw_below_drewN | apply below_drew1 | refine below_set ?_ GE1086.out) | exact HB.out)))); (case aL => have := LMc19.out; omega); intro v1092 w23 ho hb hg hat; rw [← Ny1091.out] at ho; have n0_ := Aside0.mk (Kd.R_over' (by (with_reducible repeat (first | apply Kd.R_alloc | apply Kd.R_drewN | apply Kd.R_drew)); exact (Kd.R_mono (Kd.R_far (p := ⟨gb1086, 2, none⟩) (Kd.R_far (p := ⟨gb1086, 1, none⟩) (Kd.R_far (p := ⟨gb1086, 0, none⟩) (Kd.R_types HO_9.out BK1086.out (by decide)) (fun _ hk => hk.2) (.int .u8 a0)) (fun _ hk => hk.2) (.int .i64 0)) (fun _ hk => hk.2) (.string (⟨#[]⟩ : ByteArray))) (fun _ h_ => h_.1))) (Kd.R_typed (by (with_reducible repeat (first | apply Kd.R_alloc | apply Kd.R_drewN | apply Kd.R_drew)); exact (Kd.R_mono (Kd.R_far (p := ⟨gb1086, 2, none⟩) (Kd.R_far (p := ⟨gb1086, 1, none⟩) (Kd.R_far (p := ⟨gb1086, 0, none⟩) (Kd.R_mono HO_8.out (fun k_ hk => (⟨hk, hk.2⟩ : _ ∧ k_ ≠ gb1086))) (fun _ hk => hk.2) (.int .u8 a0)) (fun _ hk => hk.2) (.int .i64 0)) (fun _ hk => hk.2) (.string (⟨#[]⟩ : ByteArray))) (fun _ h_ => h_.1)))) (by decide) hg); have n1_ := Aside0.mk (blk_grown (g := gb1086) (o := .cells #[.int .u8 a0, .int .i64 0, .string (⟨#[]⟩ : ByteArray)] 39 (0, 0)) (by (with_reducible repeat (first | refine blk_drewN ?_ _ | refine blk_drew ?_ | refine blk_alloc ?_ _)); refine blk_put (cs := #[.int .u8 a0, .int .i64 0, .string (⟨#[]⟩ : ByteArray)]) ?_ 2 _ rfl; (with_reducible repeat (first | refine blk_drewN ?_ _ | refine blk_drew ?_ | refine blk_alloc ?_ _)); refine blk_put (cs := #[.int .u8 a0, .int .i64 0, .string (⟨#[]⟩ : ByteArray)]) ?_ 1 _ rfl; (with_reducible repeat (first | refine blk_drewN ?_ _ | refine blk_drew ?_ | refine blk_alloc ?_ _)); refine blk_put (cs := #[.int .u8 0, .int .i64 0, .string (⟨#[]⟩ : ByteArray)]) ?_ 0 _ rfl; (with_reducible repeat (first | refine blk_drewN ?_ _ | refine blk_drew ?_ | refine blk_alloc ?_ _)); exact BK1086.out) hg (Kd.R_away HO_8.out (fun _ hk => hk.2))); have n2_ := Aside0.mk (hb); have n3_ := Aside0.mk (ho); clear HO_9; clear BK1086; clear HB; clear HO_8; have HO_9 := n0_; have BK1086 := n1_; have HB := n2_; have HO1093 := n3_; clear n0_ n1_ n2_ n3_; clear ho hb hg hat))
                      go_roundg k1
                      case measure => have := HK1.out; omega
                      case rel => exact ⟨(y1091), (wrap64 (x12_1 + 1)), (by first | rfl | (simp; done) | (simp [*]; done)), H', ⟨by have := HK1.out; omega⟩, ⟨by (with_reducible repeat (first | apply Kd.R_alloc | apply Kd.R_drewN | apply Kd.R_drew)); exact Kd.R_mono HO1093.out (fun _ hk => trivial)⟩, ⟨by (with_reducible repeat (first | apply Kd.R_alloc | apply Kd.R_drewN | apply Kd.R_drew)); exact HO_9.out⟩, ⟨by repeat (first | (with_reducible first | exact HB.out | apply below_alloc | apply pw_below_drewN | apply below_drew1 | refine below_set ?_ GE1086.out) | exact HB.out)⟩⟩
                    · rw [if_neg c19] at H
                      exact absurd H (by simp)
                · rw [if_neg c11] at H
                  exact absurd H (by simp)
              · rw [if_neg c10] at H
                exact absurd H (by simp)
            · rw [if_neg c9] at H
              have c9b0 : decide (x12_1 < a2) = false := decide_eq_false c9
              clear c9
              simp only [Option.some.injEq, Prod.mk.injEq] at H
              obtain ⟨rfl, rfl⟩ := H
              go_wp2
              go_ret2
              exact ⟨_, by first | rfl | (simp [errW_none, errW_some] <;> rfl) | (simp [*, errW_none, errW_some] <;> rfl), by (with_reducible repeat (first | apply Kd.R_alloc | apply Kd.R_drewN | apply Kd.R_drew)); exact HO_8.out, by repeat (first | (with_reducible first | exact HB.out | apply below_alloc | apply pw_below_drewN | apply below_drew1) | exact HB.out)⟩
      · rw [if_neg c7] at H
        have c7b0 : (t1082 == (l1.length : Int)) = false := beq_eq_false_iff_ne.mpr c7
        have c7b1 : (t1082 != (l1.length : Int)) = true := bne_iff_ne.mpr c7
        simp only [Option.some.injEq, Prod.mk.injEq] at H
        obtain ⟨rfl, rfl⟩ := H
        go_enter Try.func103, Try.ntmps103
        go_wp2_with (first | ((with_reducible refine gate_callee (f := 102) rfl ?_); refine goesL_ (some 28) rfl rfl Try.func102 (by kernel_rfl) rfl #[.slice A1 l1.length c1, .int .i64 a2] rfl (by (try simp only [List.map_toArray, List.map_cons, List.map_nil]); first | done | rfl | (simp only [List.length_drop, List.length_take]; rfl)) ?_; (with_reducible refine (tidelineref06_bits.calls k _ _ l1 a2 t1081 t1082 t1083 _ ?side1 ?side2 A5.out).mono ?_); (case side1 => repeat (first | exact HR1.out | (with_reducible refine Kd.C_alloc ?_ _) | (with_reducible refine Kd.C_drewN ?_ _) | (with_reducible refine Kd.C_drew ?_))); (case side2 => exact HC1.out); rintro e w24 ⟨v1084, rfl, ho0, hb⟩; refine ⟨_, rfl, ?_⟩; have n0_ := Aside0.mk (Kd.R_lower ho0 (below_size (by repeat (first | (with_reducible first | exact HB.out | apply below_alloc | apply pw_below_drewN | apply below_drew1) | exact HB.out)))); have n1_ := Aside0.mk (below_step (by repeat (first | (with_reducible first | exact HB.out | apply below_alloc | apply pw_below_drewN | apply below_drew1) | exact HB.out)) hb); clear HB; have HO1085 := n0_; have HB := n1_; clear n0_ n1_; (try clear hb); (try clear hb2); (try clear hk); (try clear hi); (try clear ho0)))
        go_ret2
        exact ⟨_, by first | rfl | (simp [errW_none, errW_some] <;> rfl) | (simp [*, errW_none, errW_some] <;> rfl), by first | exact Kd.R_nil _ _ _ _ _ | exact Kd.N_nil _ _ _ _ _ | exact Kd.V_nil _ _ _ _ _ | exact Kd.Q_nil _ _ _ _ _ | exact Kd.S_nil _ _ _ _ _, by repeat (first | (with_reducible first | exact HB.out | apply below_alloc | apply pw_below_drewN | apply below_drew1) | exact HB.out)⟩
    · rw [if_neg c6] at H
      have c6b0 : (t1083 == 0) = false := beq_eq_false_iff_ne.mpr c6
      have c6b1 : (t1083 != 0) = true := bne_iff_ne.mpr c6
      simp only [Option.some.injEq, Prod.mk.injEq] at H
      obtain ⟨rfl, rfl⟩ := H
      go_enter Try.func103, Try.ntmps103
      go_wp2_with (first | ((with_reducible refine gate_callee (f := 102) rfl ?_); refine goesL_ (some 28) rfl rfl Try.func102 (by kernel_rfl) rfl #[.slice A1 l1.length c1, .int .i64 a2] rfl (by (try simp only [List.map_toArray, List.map_cons, List.map_nil]); first | done | rfl | (simp only [List.length_drop, List.length_take]; rfl)) ?_; (with_reducible refine (tidelineref06_bits.calls k _ _ l1 a2 t1081 t1082 t1083 _ ?side1 ?side2 A5.out).mono ?_); (case side1 => repeat (first | exact HR1.out | (with_reducible refine Kd.C_alloc ?_ _) | (with_reducible refine Kd.C_drewN ?_ _) | (with_reducible refine Kd.C_drew ?_))); (case side2 => exact HC1.out); rintro e w25 ⟨v1084, rfl, ho0, hb⟩; refine ⟨_, rfl, ?_⟩; have n0_ := Aside0.mk (Kd.R_lower ho0 (below_size (by repeat (first | (with_reducible first | exact HB.out | apply below_alloc | apply pw_below_drewN | apply below_drew1) | exact HB.out)))); have n1_ := Aside0.mk (below_step (by repeat (first | (with_reducible first | exact HB.out | apply below_alloc | apply pw_below_drewN | apply below_drew1) | exact HB.out)) hb); clear HB; have HO1085 := n0_; have HB := n1_; clear n0_ n1_; (try clear hb); (try clear hb2); (try clear hk); (try clear hi); (try clear ho0)))
      go_ret2
      exact ⟨_, by first | rfl | (simp [errW_none, errW_some] <;> rfl) | (simp [*, errW_none, errW_some] <;> rfl), by first | exact Kd.R_nil _ _ _ _ _ | exact Kd.N_nil _ _ _ _ _ | exact Kd.V_nil _ _ _ _ _ | exact Kd.Q_nil _ _ _ _ _ | exact Kd.S_nil _ _ _ _ _, by repeat (first | (with_reducible first | exact HB.out | apply below_alloc | apply pw_below_drewN | apply below_drew1) | exact HB.out)⟩
  · rw [if_neg c4] at H
    have c4b0 : (a0 == 1) = false := beq_eq_false_iff_ne.mpr c4
    have c4b1 : (a0 != 1) = true := bne_iff_ne.mpr c4
    by_cases c26 : a0 = 2
    · rw [if_pos c26] at H
      have c26b0 : (a0 == 2) = true := beq_iff_eq.mpr c26
      have c26b1 : (a0 != 2) = false := bne_eq_false_iff_eq.mpr c26
      clear c26
      replace H := Option.bind_eq_some_iff.mp H
      obtain ⟨⟨t1094, t1095⟩, A270, H⟩ := H
      replace H : (if t1095 = 0 then (tidelineref06_marks.l1 k a0 a2 ([] : List (S39)) t1094 0) else (some (([] : List (S39)), t1095))) = some (r1, r2) := H
      have A27 := Aside0.mk A270
      clear A270
      by_cases c28 : t1095 = 0
      · rw [if_pos c28] at H
        have c28b0 : (t1095 == 0) = true := beq_iff_eq.mpr c28
        have c28b1 : (t1095 != 0) = false := bne_eq_false_iff_eq.mpr c28
        clear c28
        have H' := Aside0.mk H
        clear H
        go_enter Try.func103, Try.ntmps103
        go_wp2_with (first | ((with_reducible refine gate_callee (f := 145) rfl ?_); refine goesL_ (some 60) rfl rfl Try.func145 (by kernel_rfl) rfl #[.slice A1 l1.length c1, .int .i64 a2] rfl (by (try simp only [List.map_toArray, List.map_cons, List.map_nil]); first | done | rfl | (simp only [List.length_drop, List.length_take]; rfl)) ?_; (with_reducible refine (tidelineref05_Get.calls k _ _ l1 a2 t1094 t1095 _ ?side1 ?side2 A27.out).mono ?_); (case side1 => repeat (first | exact HR1.out | (with_reducible refine Kd.C_alloc ?_ _) | (with_reducible refine Kd.C_drewN ?_ _) | (with_reducible refine Kd.C_drew ?_))); (case side2 => exact HC1.out); rintro e w29 ⟨v1096, rfl, ho0, hb⟩; refine ⟨_, rfl, ?_⟩; have n0_ := Aside0.mk (Kd.R_lower ho0 (below_size (by repeat (first | (with_reducible first | exact HB.out | apply below_alloc | apply pw_below_drewN | apply below_drew1) | exact HB.out)))); have n1_ := Aside0.mk (below_step (by repeat (first | (with_reducible first | exact HB.out | apply below_alloc | apply pw_below_drewN | apply below_drew1) | exact HB.out)) hb); clear HB; have HO1097 := n0_; have HB := n1_; clear n0_ n1_; (try clear hb); (try clear hb2); (try clear hk); (try clear hi); (try clear ho0)))
        go_loopg [8, 16] k (fun kq v8 v16 w' => ∃ (x8_1 : List (S39)) (x16_1 : Int), v16 = .int .i64 x16_1 ∧ Aside0 (tidelineref06_marks.l1 kq a0 a2 x8_1 t1094 x16_1 = some (r1, r2)) ∧ Aside0 (kq ≤ k) ∧ Aside0 (Kd.R k39 39 w' w.heap.size (fun _ => True) v8 x8_1) ∧ Aside0 (Kd.R (Kd.int .i64) 2 w' w.heap.size (fun _ => True) v1096 t1094) ∧ Aside0 (Below w.heap.size w w'))
        case atStart => exact ⟨(([] : List (S39))), (0), (by first | rfl | (simp; done) | (simp [*]; done)), H', ⟨Nat.le_refl _⟩, ⟨by first | exact Kd.R_nil _ _ _ _ _ | exact Kd.N_nil _ _ _ _ _ | exact Kd.V_nil _ _ _ _ _ | exact Kd.Q_nil _ _ _ _ _ | exact Kd.S_nil _ _ _ _ _⟩, ⟨by (with_reducible repeat (first | apply Kd.R_alloc | apply Kd.R_drewN | apply Kd.R_drew)); exact HO1097.out⟩, ⟨by repeat (first | (with_reducible first | exact HB.out | apply below_alloc | apply pw_below_drewN | apply below_drew1) | exact HB.out)⟩⟩
        case round =>
          clear H'
          try clear c1
          try clear p1
          try clear q1
          try clear hx1
          try clear c2
          try clear p2
          try clear c4
          try clear c4b0
          try clear c4b1
          try clear c6
          try clear c6b0
          try clear c6b1
          try clear p6
          try clear c7
          try clear c7b0
          try clear c7b1
          try clear c9
          try clear c9b0
          try clear c10
          try clear c10b0
          try clear p10
          try clear q10
          try clear hx10
          try clear c11
          try clear c11b0
          try clear q12
          try clear c13
          try clear c14
          try clear c19
          try clear c26
          try clear c26b0
          try clear c26b1
          try clear c28
          try clear c28b0
          try clear c28b1
          try clear hcz16_0
          try clear hcz16_1
          try clear hcz16_2
          try clear hcz21_0
          try clear hcz21_1
          try clear hcz21_2
          try clear hfz16_0
          try clear hfz16_1
          try clear hfz16_2
          try clear hfz21_0
          try clear hfz21_1
          try clear hfz21_2
          try clear hx1087_0
          try clear p1087
          try clear p2
          try clear q1087
          obtain ⟨x8_1, x16_1, rfl, HA, HK1, HO_8, HO_14, HB⟩ := hrel
          cases gk with
          | zero => exact absurd HA.out (by simp [tidelineref06_marks.l1])
          | succ k1 =>
            have H := HA.out
            clear HA
            simp only [tidelineref06_marks.l1] at H
            by_cases c30 : x16_1 < a2
            · rw [if_pos c30] at H
              have c30b0 : decide (x16_1 < a2) = true := decide_eq_true c30
              clear c30
              by_cases c31 : 0 ≤ x16_1
              · rw [if_pos c31] at H
                have c31b0 : decide (0 ≤ x16_1) = true := decide_eq_true c31
                clear c31
                by_cases c32 : x16_1 < (t1094.length : Int)
                · rw [if_pos c32] at H
                  have c32b0 : decide (x16_1 < (t1094.length : Int)) = true := decide_eq_true c32
                  clear c32
                  by_cases c33 : x8_1.length < 4398046511104
                  · rw [if_pos c33] at H
                    have LMc33 := Aside0.mk c33
                    clear c33
                    obtain ⟨y1099, hy1099⟩ : ∃ y_ : List (S39), y_ = (x8_1 ++ [(⟨a0, rd t1094 x16_1, (⟨#[]⟩ : ByteArray)⟩ : S39)]) := ⟨_, rfl⟩
                    replace H : (tidelineref06_marks.l1 k1 a0 a2 y1099 t1094 (wrap64 (x16_1 + 1))) = some (r1, r2) := by first | (rw [hy1099]; with_reducible exact H) | (have H2_ := (Option.bind_some _ _).symm.trans H; rw [hy1099]; with_reducible exact H2_) | (have H2_ := (Option.bind_some _ _).symm.trans H; with_reducible exact H2_) | with_reducible exact H | (rw [hy1099]; exact H) | exact H
                    have Ny1099 := Aside0.mk hy1099
                    clear hy1099
                    have H' := Aside0.mk H
                    clear H
                    obtain ⟨Ao34, co34, eo34⟩ := Kd.R_slice HO_14.out
                    subst eo34
                    have p1098 : 0 ≤ (x16_1 : Int) := of_decide_eq_true (by first | (with_reducible assumption) | assumption)
                    have q1098 : x16_1 < (t1094.length : Int) := of_decide_eq_true (by first | (with_reducible assumption) | assumption)
                    obtain ⟨ad1098, e1098, hx1098_0⟩ := Kd.at_int (Kd.R_reads' HO_14.out).2.2 x16_1 p1098 q1098
                    cases e1098
                    replace p1098 := eq_true p1098
                    replace q1098 := eq_true q1098
                    go_wp2_with (first | ((with_reducible refine gate_builtin (b := .append) (xs := #[.tmp 71, .tmp 78]) rfl ?_); at_builtin; refine Kd.R_append k39 (w0 := w) w.heap.size rfl (.tmp 71) (.tmp 78) 23 39 (.agg #[(.int .u8 0), (.int .i64 0), (.string ⟨#[]⟩)]) 32 rfl Try.underlying23 info39 rfl (by decide) (by omega) u8 x8_1 (⟨a0, rd t1094 x16_1, (⟨#[]⟩ : ByteArray)⟩ : S39) [.int .u8 a0, .int .i64 (rd t1094 x16_1), .string (⟨#[]⟩ : ByteArray)] (fun _ => True) (fun _ => False) rfl rfl ?aP (fun _ hk => hk.elim) ?aF ?aO ?aB ?aS ?aL ?_; (case aP => exact k39_mkM _ _ _ (⟨a0, rd t1094 x16_1, (⟨#[]⟩ : ByteArray)⟩ : S39)); (case aB => exact (by repeat (first | (with_reducible first | exact HB.out | apply below_alloc | apply pw_below_drewN | apply below_drew1) | exact HB.out))); (case aF => exact (fun _ _ => trivial)); (case aO => exact (by (with_reducible repeat (first | apply Kd.R_alloc | apply Kd.R_drewN | apply Kd.R_drew)); exact HO_8.out)); (case aS => exact (below_size (by repeat (first | (with_reducible first | exact HB.out | apply below_alloc | apply pw_below_drewN | apply below_drew1) | exact HB.out)))); (case aL => have := LMc33.out; omega); intro v1100 w35 ho hb hg hat; rw [← Ny1099.out] at ho; have n0_ := Aside0.mk (Kd.R_over' (by (with_reducible repeat (first | apply Kd.R_alloc | apply Kd.R_drewN | apply Kd.R_drew)); exact HO_14.out) (Kd.R_typed (by (with_reducible repeat (first | apply Kd.R_alloc | apply Kd.R_drewN | apply Kd.R_drew)); exact HO_8.out)) (by decide) hg); have n1_ := Aside0.mk (hb); have n2_ := Aside0.mk (ho); clear HO_14; clear HB; clear HO_8; have HO_14 := n0_; have HB := n1_; have HO1101 := n2_; clear n0_ n1_ n2_; clear ho hb hg hat))
                    go_roundg k1
                    case measure => have := HK1.out; omega
                    case rel => exact ⟨(y1099), (wrap64 (x16_1 + 1)), (by first | rfl | (simp; done) | (simp [*]; done)), H', ⟨by have := HK1.out; omega⟩, ⟨by (with_reducible repeat (first | apply Kd.R_alloc | apply Kd.R_drewN | apply Kd.R_drew)); exact HO1101.out⟩, ⟨by (with_reducible repeat (first | apply Kd.R_alloc | apply Kd.R_drewN | apply Kd.R_drew)); exact HO_14.out⟩, ⟨by repeat (first | (with_reducible first | exact HB.out | apply below_alloc | apply pw_below_drewN | apply below_drew1) | exact HB.out)⟩⟩
                  · rw [if_neg c33] at H
                    exact absurd H (by simp)
                · rw [if_neg c32] at H
                  exact absurd H (by simp)
              · rw [if_neg c31] at H
                exact absurd H (by simp)
            · rw [if_neg c30] at H
              have c30b0 : decide (x16_1 < a2) = false := decide_eq_false c30
              clear c30
              simp only [Option.some.injEq, Prod.mk.injEq] at H
              obtain ⟨rfl, rfl⟩ := H
              go_wp2
              go_ret2
              exact ⟨_, by first | rfl | (simp [errW_none, errW_some] <;> rfl) | (simp [*, errW_none, errW_some] <;> rfl), by (with_reducible repeat (first | apply Kd.R_alloc | apply Kd.R_drewN | apply Kd.R_drew)); exact HO_8.out, by repeat (first | (with_reducible first | exact HB.out | apply below_alloc | apply pw_below_drewN | apply below_drew1) | exact HB.out)⟩
      · rw [if_neg c28] at H
        have c28b0 : (t1095 == 0) = false := beq_eq_false_iff_ne.mpr c28
        have c28b1 : (t1095 != 0) = true := bne_iff_ne.mpr c28
        simp only [Option.some.injEq, Prod.mk.injEq] at H
        obtain ⟨rfl, rfl⟩ := H
        go_enter Try.func103, Try.ntmps103
        go_wp2_with (first | ((with_reducible refine gate_callee (f := 145) rfl ?_); refine goesL_ (some 60) rfl rfl Try.func145 (by kernel_rfl) rfl #[.slice A1 l1.length c1, .int .i64 a2] rfl (by (try simp only [List.map_toArray, List.map_cons, List.map_nil]); first | done | rfl | (simp only [List.length_drop, List.length_take]; rfl)) ?_; (with_reducible refine (tidelineref05_Get.calls k _ _ l1 a2 t1094 t1095 _ ?side1 ?side2 A27.out).mono ?_); (case side1 => repeat (first | exact HR1.out | (with_reducible refine Kd.C_alloc ?_ _) | (with_reducible refine Kd.C_drewN ?_ _) | (with_reducible refine Kd.C_drew ?_))); (case side2 => exact HC1.out); rintro e w36 ⟨v1096, rfl, ho0, hb⟩; refine ⟨_, rfl, ?_⟩; have n0_ := Aside0.mk (Kd.R_lower ho0 (below_size (by repeat (first | (with_reducible first | exact HB.out | apply below_alloc | apply pw_below_drewN | apply below_drew1) | exact HB.out)))); have n1_ := Aside0.mk (below_step (by repeat (first | (with_reducible first | exact HB.out | apply below_alloc | apply pw_below_drewN | apply below_drew1) | exact HB.out)) hb); clear HB; have HO1097 := n0_; have HB := n1_; clear n0_ n1_; (try clear hb); (try clear hb2); (try clear hk); (try clear hi); (try clear ho0)))
        go_ret2
        exact ⟨_, by first | rfl | (simp [errW_none, errW_some] <;> rfl) | (simp [*, errW_none, errW_some] <;> rfl), by first | exact Kd.R_nil _ _ _ _ _ | exact Kd.N_nil _ _ _ _ _ | exact Kd.V_nil _ _ _ _ _ | exact Kd.Q_nil _ _ _ _ _ | exact Kd.S_nil _ _ _ _ _, by repeat (first | (with_reducible first | exact HB.out | apply below_alloc | apply pw_below_drewN | apply below_drew1) | exact HB.out)⟩
    · rw [if_neg c26] at H
      have c26b0 : (a0 == 2) = false := beq_eq_false_iff_ne.mpr c26
      have c26b1 : (a0 != 2) = true := bne_iff_ne.mpr c26
      replace H := Option.bind_eq_some_iff.mp H
      obtain ⟨⟨t1102, t1103⟩, A370, H⟩ := H
      replace H : (some (t1102, t1103)) = some (r1, r2) := H
      have A37 := Aside0.mk A370
      clear A370
      simp only [Option.some.injEq, Prod.mk.injEq] at H
      obtain ⟨rfl, rfl⟩ := H
      go_enter Try.func103, Try.ntmps103
      go_wp2_with (first | ((with_reducible refine gate_callee (f := 146) rfl ?_); refine goesL_ (some 20) rfl rfl Try.func146 (by kernel_rfl) rfl #[.slice A1 l1.length c1, .int .i64 a2] rfl (by (try simp only [List.map_toArray, List.map_cons, List.map_nil]); first | done | rfl | (simp only [List.length_drop, List.length_take]; rfl)) ?_; (with_reducible refine (tidelineref06_read.calls k _ _ l1 a2 t1102 t1103 _ ?side1 ?side2 A37.out).mono ?_); (case side1 => repeat (first | exact HR1.out | (with_reducible refine Kd.C_alloc ?_ _) | (with_reducible refine Kd.C_drewN ?_ _) | (with_reducible refine Kd.C_drew ?_))); (case side2 => exact HC1.out); rintro e w38 ⟨v1104, rfl, ho0, hb⟩; refine ⟨_, rfl, ?_⟩; have n0_ := Aside0.mk (Kd.R_lower ho0 (below_size (by repeat (first | (with_reducible first | exact HB.out | apply below_alloc | apply pw_below_drewN | apply below_drew1) | exact HB.out)))); have n1_ := Aside0.mk (below_step (by repeat (first | (with_reducible first | exact HB.out | apply below_alloc | apply pw_below_drewN | apply below_drew1) | exact HB.out)) hb); clear HB; have HO1105 := n0_; have HB := n1_; clear n0_ n1_; (try clear hb); (try clear hb2); (try clear hk); (try clear hi); (try clear ho0)))
      go_ret2
      exact ⟨_, by first | rfl | (simp [errW_none, errW_some] <;> rfl) | (simp [*, errW_none, errW_some] <;> rfl), by (with_reducible repeat (first | apply Kd.R_alloc | apply Kd.R_drewN | apply Kd.R_drew)); exact HO1105.out, by repeat (first | (with_reducible first | exact HB.out | apply below_alloc | apply pw_below_drewN | apply below_drew1) | exact HB.out)⟩

end Go.Proofs.Ytlmcefhpnfoahaa.P
end

section
namespace Go.Proofs.Ytlmcefhpnfoahaa.P
open Go.RowKit Go.Proofs.YtlmcefhpnfoahaaW.PrintWords Go.Proofs.YtlmcefhpnfoahaaW.PrintLast Go.Proofs.YtlmcefhpnfoahaaW.PrintMore
attribute [local go_sem] max2_int min2_int max_two min_two max_three min_three max_four min_four   -- for this text's walks alone
set_option linter.unusedVariables false
set_option linter.unusedSimpArgs false

mutual
def tidelineref06_Get.j0 : Nat → Int → List Int → Int → Bool → Option ((List (S39)) × Int)
  | 0, _, _, _, _ => none
  | k + 1, x0, x1, x2, x29 => if x29 = true then (some (([] : List (S39)), 1)) else ((tidelineref06_bits.f k x1 x2).bind fun bt1074 => (if bt1074.2.2 = 0 then (tidelineref06_Get.l0 k x0 x1 x2 bt1074.1 bt1074.2.1 0 0) else (some (([] : List (S39)), bt1074.2.2))))
def tidelineref06_Get.l0 : Nat → Int → List Int → Int → List Bool → Int → Int → Int → Option ((List (S39)) × Int)
  | 0, _, _, _, _, _, _, _ => none
  | k + 1, x0, x1, x2, x8, x9, x11, x12 => if x12 < x2 then (if 0 ≤ x12 then (if x12 < (x8.length : Int) then (if rdOf false x8 x12 = true then (tidelineref06_Get.l0 k x0 x1 x2 x8 x9 x11 (wrap64 (x12 + 1))) else (tidelineref06_Get.l0 k x0 x1 x2 x8 x9 (wrap64 (x11 + 1)) (wrap64 (x12 + 1)))) else (none)) else (none)) else (if 0 ≤ x9 then (if x9 ≤ (x1.length : Int) then ((tidelineref06_marks.f k x0 (x1.drop (x9 : Int).toNat) x11).bind fun bt1081 => (if bt1081.2 = 0 then (tidelineref06_Get.l1 k x2 x8 bt1081.1 ([] : List (S39)) 0) else (some (([] : List (S39)), bt1081.2)))) else (none)) else (none))
def tidelineref06_Get.l1 : Nat → Int → List Bool → List (S39) → List (S39) → Int → Option ((List (S39)) × Int)
  | 0, _, _, _, _, _ => none
  | k + 1, x2, x8, x13, x14, x15 => if x15 < x2 then (if 0 ≤ x15 then (if x15 < (x8.length : Int) then (if rdOf false x8 x15 = true then (if x14.length < 4398046511104 then (tidelineref06_Get.l1 k x2 x8 x13 (x14 ++ [(⟨0, 0, (⟨#[]⟩ : ByteArray)⟩ : S39)]) (wrap64 (x15 + 1))) else (none)) else (if 0 < (x13.length : Int) then (if x14.length < 4398046511104 then (if 1 ≤ (x13.length : Int) then (tidelineref06_Get.l1 k x2 x8 (x13.drop (1 : Int).toNat) (x14 ++ [(⟨(rd_T39 x13 0).f0, (rd_T39 x13 0).f1, (rd_T39 x13 0).f2⟩ : S39)]) (wrap64 (x15 + 1))) else (none)) else (none)) else (none))) else (none)) else (none)) else (some (x14, 0))
end
def tidelineref06_Get.f (k : Nat) (a0 : Int) (l1 : List Int) (a2 : Int) : Option ((List (S39)) × Int) := if a0 < 1 then (tidelineref06_Get.j0 k a0 l1 a2 true) else (if a0 > 3 then (tidelineref06_Get.j0 k a0 l1 a2 true) else (if a2 < 0 then (tidelineref06_Get.j0 k a0 l1 a2 true) else (tidelineref06_Get.j0 k a0 l1 a2 (decide (a2 > 65536)))))
set_option maxHeartbeats 8000000 in
set_option maxRecDepth 100000 in
theorem tidelineref06_Get.calls (k : Nat) (a0 : Int) (A1 : Option Addr) (c1 : Nat) (l1 : List Int) (a2 : Int) (r1 : List (S39)) (r2 : Int) (w : World) (hr1 : Kd.C (Kd.int .u8) w A1 l1.length l1) (hc1 : l1.length ≤ c1) (h : tidelineref06_Get.f k a0 l1 a2 = some (r1, r2)) :
    Calls Try.prog 59 #[.int .u8 a0, .slice A1 l1.length c1, .int .i64 a2] w fun e w' => ∃ v0_ : Value, e = .returned (.tuple #[v0_, .int .i64 r2]) ∧ Kd.R k39 39 w' w.heap.size (fun _ => True) v0_ r1 ∧ Below w.heap.size w w' := by
  have hu39 := Try.underlying39
  have HR1 := Aside0.mk hr1
  have HC1 := Aside0.mk hc1
  clear hr1 hc1
  have HB := Aside0.mk (Below.refl w.heap.size w)
  have H : (if a0 < 1 then (tidelineref06_Get.j0 k a0 l1 a2 true) else (if a0 > 3 then (tidelineref06_Get.j0 k a0 l1 a2 true) else (if a2 < 0 then (tidelineref06_Get.j0 k a0 l1 a2 true) else (tidelineref06_Get.j0 k a0 l1 a2 (decide (a2 > 65536)))))) = some (r1, r2) := h
  clear h
  have HC4 := Aside0.mk H
  clear H
  go_enter Try.func59, Try.ntmps59
  go_upto_region 1 with (fail)
  go_cut [29] (fun v29 wc => ∃ (kq : Nat) (x29_3 : Bool), v29 = .bool x29_3 ∧ Aside0 (tidelineref06_Get.j0 kq a0 l1 a2 x29_3 = some (r1, r2)) ∧ Aside0 (kq ≤ k) ∧ Aside0 (Below w.heap.size w wc))
  case first =>
    have H := HC4.out
    clear HC4
    by_cases c5 : a0 < 1
    · rw [if_pos c5] at H
      have c5b0 : decide (a0 < 1) = true := decide_eq_true c5
      clear c5
      (first | rw [c5b0] | (simp only [i64_w, i32_w]; rw [c5b0]) | skip)
      have H' := Aside0.mk H
      clear H
      go_wp2
      go_meet
      case rel => exact ⟨_, (true), (by first | rfl | (simp; done) | (simp [*]; done)), H', ⟨by first | omega | exact Nat.le_refl _⟩, ⟨by repeat (first | (with_reducible first | exact HB.out | apply below_alloc | apply pw_below_drewN | apply below_drew1) | exact HB.out)⟩⟩
    · rw [if_neg c5] at H
      have c5b0 : decide (a0 < 1) = false := decide_eq_false c5
      clear c5
      (first | rw [c5b0] | (simp only [i64_w, i32_w]; rw [c5b0]) | skip)
      by_cases c6 : a0 > 3
      · rw [if_pos c6] at H
        have c6b0 : decide (3 < a0) = true := decide_eq_true c6
        clear c6
        have H' := Aside0.mk H
        clear H
        go_wp2
        go_meet
        case rel => exact ⟨_, (true), (by first | rfl | (simp; done) | (simp [*]; done)), H', ⟨by first | omega | exact Nat.le_refl _⟩, ⟨by repeat (first | (with_reducible first | exact HB.out | apply below_alloc | apply pw_below_drewN | apply below_drew1) | exact HB.out)⟩⟩
      · rw [if_neg c6] at H
        have c6b0 : decide (3 < a0) = false := decide_eq_false c6
        clear c6
        by_cases c7 : a2 < 0
        · rw [if_pos c7] at H
          have c7b0 : decide (a2 < 0) = true := decide_eq_true c7
          clear c7
          have H' := Aside0.mk H
          clear H
          go_wp2
          go_meet
          case rel => exact ⟨_, (true), (by first | rfl | (simp; done) | (simp [*]; done)), H', ⟨by first | omega | exact Nat.le_refl _⟩, ⟨by repeat (first | (with_reducible first | exact HB.out | apply below_alloc | apply pw_below_drewN | apply below_drew1) | exact HB.out)⟩⟩
        · rw [if_neg c7] at H
          have c7b0 : decide (a2 < 0) = false := decide_eq_false c7
          clear c7
          have H' := Aside0.mk H
          clear H
          go_wp2
          go_meet
          case rel => exact ⟨_, (decide (a2 > 65536)), (by first | rfl | (simp; done) | (simp [*]; done)), H', ⟨by first | omega | exact Nat.le_refl _⟩, ⟨by repeat (first | (with_reducible first | exact HB.out | apply below_alloc | apply pw_below_drewN | apply below_drew1) | exact HB.out)⟩⟩
  case rest =>
    clear HC4
    try clear c1
    try clear p2
    try clear c5
    try clear c5b0
    try clear c6
    try clear c6b0
    try clear c7
    try clear c7b0
    obtain ⟨kq, x29_3, rfl, HA, HJ3, HB⟩ := hcut
    cases kq with
    | zero => exact absurd HA.out (by simp [tidelineref06_Get.j0])
    | succ kj3 =>
      have H := HA.out
      clear HA
      simp only [tidelineref06_Get.j0] at H
      by_cases c8 : x29_3 = true
      · subst c8
        have H1 : (some (([] : List (S39)), 1)) = some (r1, r2) := by rw [if_pos rfl] at H; exact H
        clear H
        have H := H1
        clear H1
        simp only [Option.some.injEq, Prod.mk.injEq] at H
        obtain ⟨rfl, rfl⟩ := H
        go_wp2
        go_ret2
        exact ⟨_, by first | rfl | (simp [errW_none, errW_some] <;> rfl) | (simp [*, errW_none, errW_some] <;> rfl), by first | exact Kd.R_nil _ _ _ _ _ | exact Kd.N_nil _ _ _ _ _ | exact Kd.V_nil _ _ _ _ _ | exact Kd.Q_nil _ _ _ _ _ | exact Kd.S_nil _ _ _ _ _, by repeat (first | (with_reducible first | exact HB.out | apply below_alloc | apply pw_below_drewN | apply below_drew1) | exact HB.out)⟩
      · replace c8 := Bool.eq_false_iff.mpr c8
        subst c8
        have H1 : ((tidelineref06_bits.f kj3 l1 a2).bind fun bt1074 => (if bt1074.2.2 = 0 then (tidelineref06_Get.l0 kj3 a0 l1 a2 bt1074.1 bt1074.2.1 0 0) else (some (([] : List (S39)), bt1074.2.2)))) = some (r1, r2) := by rw [if_neg (show ¬ (false = true) by decide)] at H; exact H
        clear H
        have H := H1
        clear H1
        replace H := Option.bind_eq_some_iff.mp H
        obtain ⟨⟨t1074, t1075, t1076⟩, A90, H⟩ := H
        replace H : (if t1076 = 0 then (tidelineref06_Get.l0 kj3 a0 l1 a2 t1074 t1075 0 0) else (some (([] : List (S39)), t1076))) = some (r1, r2) := H
        have A9 := Aside0.mk A90
        clear A90
        by_cases c10 : t1076 = 0
        · rw [if_pos c10] at H
          have c10b0 : (t1076 == 0) = true := beq_iff_eq.mpr c10
          have c10b1 : (t1076 != 0) = false := bne_eq_false_iff_eq.mpr c10
          clear c10
          have H' := Aside0.mk H
          clear H
          go_wp2_with (first | ((with_reducible refine gate_callee (f := 102) rfl ?_); refine goesL_ (some 33) rfl rfl Try.func102 (by kernel_rfl) rfl #[.slice A1 l1.length c1, .int .i64 a2] rfl (by (try simp only [List.map_toArray, List.map_cons, List.map_nil]); first | done | rfl | (simp only [List.length_drop, List.length_take]; rfl)) ?_; (with_reducible refine (tidelineref06_bits.calls kj3 _ _ l1 a2 t1074 t1075 t1076 _ ?side1 ?side2 A9.out).mono ?_); (case side1 => repeat (first | exact (Kd.C_below HR1.out HB.out) | (with_reducible refine Kd.C_alloc ?_ _) | (with_reducible refine Kd.C_drewN ?_ _) | (with_reducible refine Kd.C_drew ?_))); (case side2 => exact HC1.out); rintro e w11 ⟨v1077, rfl, ho0, hb⟩; refine ⟨_, rfl, ?_⟩; have n0_ := Aside0.mk (Kd.R_lower ho0 (below_size (by repeat (first | (with_reducible first | exact HB.out | apply below_alloc | apply pw_below_drewN | apply below_drew1) | exact HB.out)))); have n1_ := Aside0.mk (below_step (by repeat (first | (with_reducible first | exact HB.out | apply below_alloc | apply pw_below_drewN | apply below_drew1) | exact HB.out)) hb); clear HB; have HO1078 := n0_; have HB := n1_; clear n0_ n1_; (try clear hb); (try clear hb2); (try clear hk); (try clear hi); (try clear ho0)))
          go_loopg [11, 12] kj3 (fun kq v11 v12 w' => ∃ (x11_2 : Int) (x12_2 : Int), v11 = .int .i64 x11_2 ∧ v12 = .int .i64 x12_2 ∧ Aside0 (tidelineref06_Get.l0 kq a0 l1 a2 t1074 t1075 x11_2 x12_2 = some (r1, r2)) ∧ Aside0 (kq ≤ kj3) ∧ Aside0 (Kd.R Kd.bool 4 w' w.heap.size (fun _ => True) v1077 t1074) ∧ Aside0 (Below w.heap.size w w'))
          case atStart => exact ⟨(0), (0), (by first | rfl | (simp; done) | (simp [*]; done)), (by first | rfl | (simp; done) | (simp [*]; done)), H', ⟨Nat.le_refl _⟩, ⟨by (with_reducible repeat (first | apply Kd.R_alloc | apply Kd.R_drewN | apply Kd.R_drew)); exact HO1078.out⟩, ⟨by repeat (first | (with_reducible first | exact HB.out | apply below_alloc | apply pw_below_drewN | apply below_drew1) | exact HB.out)⟩⟩
          case round =>
            clear H'
            try clear c1
            try clear p2
            try clear c5
            try clear c5b0
            try clear c6
            try clear c6b0
            try clear c7
            try clear c7b0
            try clear c8
            try clear c10
            try clear c10b0
            try clear c10b1
            try clear p2
            obtain ⟨x11_2, x12_2, rfl, rfl, HA, HK2, HO_8, HB⟩ := hrel
            cases gk with
            | zero => exact absurd HA.out (by simp [tidelineref06_Get.l0])
            | succ k2 =>
              have H := HA.out
              clear HA
              simp only [tidelineref06_Get.l0] at H
              by_cases c12 : x12_2 < a2
              · rw [if_pos c12] at H
                have c12b0 : decide (x12_2 < a2) = true := decide_eq_true c12
                clear c12
                by_cases c13 : 0 ≤ x12_2
                · rw [if_pos c13] at H
                  have c13b0 : decide (0 ≤ x12_2) = true := decide_eq_true c13
                  clear c13
                  by_cases c14 : x12_2 < (t1074.length : Int)
                  · rw [if_pos c14] at H
                    have c14b0 : decide (x12_2 < (t1074.length : Int)) = true := decide_eq_true c14
                    clear c14
                    obtain ⟨bq15, hbq15⟩ : ∃ b_ : Bool, b_ = (rdOf false t1074 x12_2) := ⟨_, rfl⟩
                    replace H : (if bq15 = true then (tidelineref06_Get.l0 k2 a0 l1 a2 t1074 t1075 x11_2 (wrap64 (x12_2 + 1))) else (tidelineref06_Get.l0 k2 a0 l1 a2 t1074 t1075 (wrap64 (x11_2 + 1)) (wrap64 (x12_2 + 1)))) = some (r1, r2) := by rw [← hbq15] at H; exact H
                    have Nbq15 := Aside0.mk hbq15
                    clear hbq15
                    by_cases c16 : bq15 = true
                    · subst c16
                      have H1 : (tidelineref06_Get.l0 k2 a0 l1 a2 t1074 t1075 x11_2 (wrap64 (x12_2 + 1))) = some (r1, r2) := by rw [if_pos rfl] at H; exact H
                      clear H
                      have H := H1
                      clear H1
                      have H' := Aside0.mk H
                      clear H
                      obtain ⟨Ao17, co17, eo17⟩ := Kd.R_slice HO_8.out
                      subst eo17
                      have p1079 : 0 ≤ (x12_2 : Int) := of_decide_eq_true (by first | (with_reducible assumption) | assumption)
                      have q1079 : x12_2 < (t1074.length : Int) := of_decide_eq_true (by first | (with_reducible assumption) | assumption)
                      obtain ⟨ad1079, e1079, hx1079_0⟩ := Kd.at_bool (Kd.R_reads' HO_8.out).2.2 x12_2 p1079 q1079
                      (try rw [← Nbq15.out] at hx1079_0)
                      cases e1079
                      replace p1079 := eq_true p1079
                      replace q1079 := eq_true q1079
                      go_wp2
                      go_roundg k2
                      case measure => have := HJ3.out; have := HK2.out; omega
                      case rel => exact ⟨(x11_2), (wrap64 (x12_2 + 1)), (by first | rfl | (simp; done) | (simp [*]; done)), (by first | rfl | (simp; done) | (simp [*]; done)), H', ⟨by have := HJ3.out; have := HK2.out; omega⟩, ⟨by (with_reducible repeat (first | apply Kd.R_alloc | apply Kd.R_drewN | apply Kd.R_drew)); exact HO_8.out⟩, ⟨by repeat (first | (with_reducible first | exact HB.out | apply below_alloc | apply pw_below_drewN | apply below_drew1) | exact HB.out)⟩⟩
                    · replace c16 := Bool.eq_false_iff.mpr c16
                      subst c16
                      have H1 : (tidelineref06_Get.l0 k2 a0 l1 a2 t1074 t1075 (wrap64 (x11_2 + 1)) (wrap64 (x12_2 + 1))) = some (r1, r2) := by rw [if_neg (show ¬ (false = true) by decide)] at H; exact H
                      clear H
                      have H := H1
                      clear H1
                      have H' := Aside0.mk H
                      clear H
                      obtain ⟨Ao18, co18, eo18⟩ := Kd.R_slice HO_8.out
                      subst eo18
                      have p1079 : 0 ≤ (x12_2 : Int) := of_decide_eq_true (by first | (with_reducible assumption) | assumption)
                      have q1079 : x12_2 < (t1074.length : Int) := of_decide_eq_true (by first | (with_reducible assumption) | assumption)
                      obtain ⟨ad1079, e1079, hx1079_0⟩ := Kd.at_bool (Kd.R_reads' HO_8.out).2.2 x12_2 p1079 q1079
                      (try rw [← Nbq15.out] at hx1079_0)
                      cases e1079
                      replace p1079 := eq_true p1079
                      replace q1079 := eq_true q1079
                      go_wp2
                      go_roundg k2
                      case measure => have := HJ3.out; have := HK2.out; omega
                      case rel => exact ⟨(wrap64 (x11_2 + 1)), (wrap64 (x12_2 + 1)), (by first | rfl | (simp; done) | (simp [*]; done)), (by first | rfl | (simp; done) | (simp [*]; done)), H', ⟨by have := HJ3.out; have := HK2.out; omega⟩, ⟨by (with_reducible repeat (first | apply Kd.R_alloc | apply Kd.R_drewN | apply Kd.R_drew)); exact HO_8.out⟩, ⟨by repeat (first | (with_reducible first | exact HB.out | apply below_alloc | apply pw_below_drewN | apply below_drew1) | exact HB.out)⟩⟩
                  · rw [if_neg c14] at H
                    exact absurd H (by simp)
                · rw [if_neg c13] at H
                  exact absurd H (by simp)
              · rw [if_neg c12] at H
                have c12b0 : decide (x12_2 < a2) = false := decide_eq_false c12
                clear c12
                by_cases c19 : 0 ≤ t1075
                · rw [if_pos c19] at H
                  have c19b0 := eq_true c19
                  have c19b1 : decide (0 ≤ t1075) = true := decide_eq_true c19
                  clear c19
                  by_cases c20 : t1075 ≤ (l1.length : Int)
                  · rw [if_pos c20] at H
                    have c20b0 := eq_true c20
                    have c20b1 : decide (t1075 ≤ (l1.length : Int)) = true := decide_eq_true c20
                    clear c20
                    replace H := Option.bind_eq_some_iff.mp H
                    obtain ⟨⟨t1081, t1082⟩, A210, H⟩ := H
                    replace H : (if t1082 = 0 then (tidelineref06_Get.l1 k2 a2 t1074 t1081 ([] : List (S39)) 0) else (some (([] : List (S39)), t1082))) = some (r1, r2) := H
                    have A21 := Aside0.mk A210
                    clear A210
                    by_cases c22 : t1082 = 0
                    · rw [if_pos c22] at H
                      have c22b0 : (t1082 == 0) = true := beq_iff_eq.mpr c22
                      have c22b1 : (t1082 != 0) = false := bne_eq_false_iff_eq.mpr c22
                      clear c22
                      have H' := Aside0.mk H
                      clear H
                      obtain ⟨i023, hi023, _, hsz23, _⟩ := info_parts info5
                      obtain ⟨A23, hcut23, hA23, hC23⟩ := print_drop_of (P := Try.prog) (Value.int .u8) 0 22 5 .i64 Try.underlying22 hi023 hsz23 A1 c1 l1 t1075 (of_decide_eq_true (by first | (with_reducible assumption) | assumption)) (of_decide_eq_true (by first | (with_reducible assumption) | assumption)) HC1.out
                      have HR1080 := Aside0.mk (Kd.C_of_reads (h1 := fun _ => rfl) (hA23 _ (Kd.reads_of_C HR1.out)))
                      have HC1080 := Aside0.mk hC23
                      clear hA23 hC23 hi023 hsz23
                      go_wp2_with (first | ((with_reducible refine gate_callee (f := 103) rfl ?_); refine goesL_ (some 58) rfl rfl Try.func103 (by kernel_rfl) rfl #[.int .u8 a0, .slice A23 (l1.drop (t1075 : Int).toNat).length (c1 - t1075.toNat), .int .i64 x11_2] rfl (by (try simp only [List.map_toArray, List.map_cons, List.map_nil]); first | done | (rw [show (l1.drop (t1075 : Int).toNat).length = (l1.length - t1075.toNat) from List.length_drop] <;> rfl) | rfl | (simp only [List.length_drop, List.length_take]; rfl)) ?_; (with_reducible refine (tidelineref06_marks.calls k2 a0 _ _ (l1.drop (t1075 : Int).toNat) x11_2 t1081 t1082 _ ?side1 ?side2 A21.out).mono ?_); (case side1 => repeat (first | exact (Kd.C_below HR1080.out HB.out) | (with_reducible refine Kd.C_alloc ?_ _) | (with_reducible refine Kd.C_drewN ?_ _) | (with_reducible refine Kd.C_drew ?_))); (case side2 => exact HC1080.out); rintro e w24 ⟨v1083, rfl, ho0, hb⟩; refine ⟨_, rfl, ?_⟩; have n0_ := Aside0.mk (Kd.R_below (by (with_reducible repeat (first | apply Kd.R_alloc | apply Kd.R_drewN | apply Kd.R_drew)); exact HO_8.out) hb); have n1_ := Aside0.mk (Kd.R_lower ho0 (below_size (by repeat (first | (with_reducible first | exact HB.out | apply below_alloc | apply pw_below_drewN | apply below_drew1) | exact HB.out)))); have n2_ := Aside0.mk (below_step (by repeat (first | (with_reducible first | exact HB.out | apply below_alloc | apply pw_below_drewN | apply below_drew1) | exact HB.out)) hb); clear HO_8; clear HB; have HO_8 := n0_; have HO1084 := n1_; have HB := n2_; clear n0_ n1_ n2_; (try clear hb); (try clear hb2); (try clear hk); (try clear hi); (try clear ho0)))
                      go_loopg [13, 14, 15] k2 (fun kq v13 v14 v15 w' => ∃ (x13_3 : List (S39)) (x14_3 : List (S39)) (x15_3 : Int), v15 = .int .i64 x15_3 ∧ Aside0 (tidelineref06_Get.l1 kq a2 t1074 x13_3 x14_3 x15_3 = some (r1, r2)) ∧ Aside0 (kq ≤ k2) ∧ Aside0 (Kd.R Kd.bool 4 w' w.heap.size (fun _ => True) v1077 t1074) ∧ Aside0 (Kd.Q k39 39 w' w.heap.size (fun k_ => some k_ ≠ (v14 : Value).ownBlock) v13 x13_3) ∧ Aside0 (Kd.R k39 39 w' w.heap.size (fun k_ => some k_ ≠ (v13 : Value).ownBlock) v14 x14_3) ∧ Aside0 (Below w.heap.size w w'))
                      case atStart => exact ⟨(t1081), (([] : List (S39))), (0), (by first | rfl | (simp; done) | (simp [*]; done)), H', ⟨Nat.le_refl _⟩, ⟨by (with_reducible repeat (first | apply Kd.R_alloc | apply Kd.R_drewN | apply Kd.R_drew)); exact HO_8.out⟩, ⟨Kd.Q_of_R (by (with_reducible repeat (first | apply Kd.R_alloc | apply Kd.R_drewN | apply Kd.R_drew)); exact Kd.R_mono HO1084.out (fun _ hk => (by simp [Value.ownBlock])))⟩, ⟨by first | exact Kd.R_nil _ _ _ _ _ | exact Kd.N_nil _ _ _ _ _ | exact Kd.V_nil _ _ _ _ _ | exact Kd.Q_nil _ _ _ _ _ | exact Kd.S_nil _ _ _ _ _⟩, ⟨by repeat (first | (with_reducible first | exact HB.out | apply below_alloc | apply pw_below_drewN | apply below_drew1) | exact HB.out)⟩⟩
                      case round =>
                        clear H'
                        try clear c1
                        try clear p1
                        try clear q1
                        try clear hx1
                        try clear c2
                        try clear p2
                        try clear c5
                        try clear c5b0
                        try clear c6
                        try clear c6b0
                        try clear p6
                        try clear c7
                        try clear c7b0
                        try clear c8
                        try clear c10
                        try clear c10b0
                        try clear c10b1
                        try clear p10
                        try clear q10
                        try clear hx10
                        try clear c12
                        try clear c12b0
                        try clear c13
                        try clear c13b0
                        try clear c14
                        try clear c14b0
                        try clear q15
                        try clear c16
                        try clear c19
                        try clear c19b0
                        try clear c19b1
                        try clear c20
                        try clear c20b0
                        try clear c20b1
                        try clear c22
                        try clear c22b0
                        try clear c22b1
                        try clear hx1079_0
                        try clear p1079
                        try clear p2
                        try clear q1079
                        obtain ⟨x13_3, x14_3, x15_3, rfl, HA, HK3, HO_8, HO_13, HO_14, HB⟩ := hrel
                        cases gk with
                        | zero => exact absurd HA.out (by simp [tidelineref06_Get.l1])
                        | succ k3 =>
                          have H := HA.out
                          clear HA
                          simp only [tidelineref06_Get.l1] at H
                          by_cases c25 : x15_3 < a2
                          · rw [if_pos c25] at H
                            have c25b0 : decide (x15_3 < a2) = true := decide_eq_true c25
                            clear c25
                            by_cases c26 : 0 ≤ x15_3
                            · rw [if_pos c26] at H
                              have c26b0 : decide (0 ≤ x15_3) = true := decide_eq_true c26
                              clear c26
                              by_cases c27 : x15_3 < (t1074.length : Int)
                              · rw [if_pos c27] at H
                                have c27b0 : decide (x15_3 < (t1074.length : Int)) = true := decide_eq_true c27
                                clear c27
                                obtain ⟨bq28, hbq28⟩ : ∃ b_ : Bool, b_ = (rdOf false t1074 x15_3) := ⟨_, rfl⟩
                                replace H : (if bq28 = true then (if x14_3.length < 4398046511104 then (tidelineref06_Get.l1 k3 a2 t1074 x13_3 (x14_3 ++ [(⟨0, 0, (⟨#[]⟩ : ByteArray)⟩ : S39)]) (wrap64 (x15_3 + 1))) else (none)) else (if 0 < (x13_3.length : Int) then (if x14_3.length < 4398046511104 then (if 1 ≤ (x13_3.length : Int) then (tidelineref06_Get.l1 k3 a2 t1074 (x13_3.drop (1 : Int).toNat) (x14_3 ++ [(⟨(rd_T39 x13_3 0).f0, (rd_T39 x13_3 0).f1, (rd_T39 x13_3 0).f2⟩ : S39)]) (wrap64 (x15_3 + 1))) else (none)) else (none)) else (none))) = some (r1, r2) := by rw [← hbq28] at H; exact H
                                have Nbq28 := Aside0.mk hbq28
                                clear hbq28
                                by_cases c29 : bq28 = true
                                · subst c29
                                  have H1 : (if x14_3.length < 4398046511104 then (tidelineref06_Get.l1 k3 a2 t1074 x13_3 (x14_3 ++ [(⟨0, 0, (⟨#[]⟩ : ByteArray)⟩ : S39)]) (wrap64 (x15_3 + 1))) else (none)) = some (r1, r2) := by rw [if_pos rfl] at H; exact H
                                  clear H
                                  have H := H1
                                  clear H1
                                  by_cases c30 : x14_3.length < 4398046511104
                                  · rw [if_pos c30] at H
                                    have LMc30 := Aside0.mk c30
                                    clear c30
                                    obtain ⟨y1086, hy1086⟩ : ∃ y_ : List (S39), y_ = (x14_3 ++ [(⟨0, 0, (⟨#[]⟩ : ByteArray)⟩ : S39)]) := ⟨_, rfl⟩
                                    replace H : (tidelineref06_Get.l1 k3 a2 t1074 x13_3 y1086 (wrap64 (x15_3 + 1))) = some (r1, r2) := by first | (rw [hy1086]; with_reducible exact H) | (have H2_ := (Option.bind_some _ _).symm.trans H; rw [hy1086]; with_reducible exact H2_) | (have H2_ := (Option.bind_some _ _).symm.trans H; with_reducible exact H2_) | with_reducible exact H | (rw [hy1086]; exact H) | exact H
                                    have Ny1086 := Aside0.mk hy1086
                                    clear hy1086
                                    have H' := Aside0.mk H
                                    clear H
                                    obtain ⟨Ao31, co31, eo31⟩ := Kd.R_slice HO_8.out
                                    subst eo31
                                    have p1085 : 0 ≤ (x15_3 : Int) := of_decide_eq_true (by first | (with_reducible assumption) | assumption)
                                    have q1085 : x15_3 < (t1074.length : Int) := of_decide_eq_true (by first | (with_reducible assumption) | assumption)
                                    obtain ⟨ad1085, e1085, hx1085_0⟩ := Kd.at_bool (Kd.R_reads' HO_8.out).2.2 x15_3 p1085 q1085
                                    (try rw [← Nbq28.out] at hx1085_0)
                                    cases e1085
                                    replace p1085 := eq_true p1085
                                    replace q1085 := eq_true q1085
                                    go_wp2_with (first | ((with_reducible refine gate_builtin (b := .append) (xs := #[.tmp 73, .tmp 75]) rfl ?_); at_builtin; refine Kd.R_append k39 (w0 := w) w.heap.size rfl (.tmp 73) (.tmp 75) 23 39 (.agg #[(.int .u8 0), (.int .i64 0), (.string ⟨#[]⟩)]) 32 rfl Try.underlying23 info39 rfl (by decide) (by omega) u14 x14_3 (⟨0, 0, (⟨#[]⟩ : ByteArray)⟩ : S39) [.int .u8 0, .int .i64 0, .string (⟨#[]⟩ : ByteArray)] (fun k_ => some k_ ≠ (u13 : Value).ownBlock) (fun _ => False) rfl rfl ?aP (fun _ hk => hk.elim) ?aF ?aO ?aB ?aS ?aL ?_; (case aP => exact k39_mkM _ _ _ (⟨0, 0, (⟨#[]⟩ : ByteArray)⟩ : S39)); (case aB => exact (by repeat (first | (with_reducible first | exact HB.out | apply below_alloc | apply pw_below_drewN | apply below_drew1) | exact HB.out))); (case aF => exact (fun k_ hk => Kd.fresh' (Kd.Q_lt (by (with_reducible repeat (first | apply Kd.Q_alloc | apply Kd.Q_drewN | apply Kd.Q_drew)); exact HO_13.out)) k_ hk)); (case aO => exact (by (with_reducible repeat (first | apply Kd.R_alloc | apply Kd.R_drewN | apply Kd.R_drew)); exact HO_14.out)); (case aS => exact (below_size (by repeat (first | (with_reducible first | exact HB.out | apply below_alloc | apply pw_below_drewN | apply below_drew1) | exact HB.out)))); (case aL => have := LMc30.out; omega); intro v1087 w32 ho hb hg hat; rw [← Ny1086.out] at ho; have n0_ := Aside0.mk (Kd.R_over' (by (with_reducible repeat (first | apply Kd.R_alloc | apply Kd.R_drewN | apply Kd.R_drew)); exact HO_8.out) (Kd.R_typed (by (with_reducible repeat (first | apply Kd.R_alloc | apply Kd.R_drewN | apply Kd.R_drew)); exact HO_14.out)) (by decide) hg); have n1_ := Aside0.mk (Kd.Q_after (ok := (fun _ => True)) (by (with_reducible repeat (first | apply Kd.Q_alloc | apply Kd.Q_drewN | apply Kd.Q_drew)); exact Kd.Q_mono HO_13.out (fun _ hk => ⟨trivial, hk⟩)) hg hat); have n2_ := Aside0.mk (hb); have n3_ := Aside0.mk (ho); clear HO_8; clear HO_13; clear HB; clear HO_14; have HO_8 := n0_; have HO_13 := n1_; have HB := n2_; have HO1088 := n3_; clear n0_ n1_ n2_ n3_; clear ho hb hg hat))
                                    go_roundg k3
                                    case measure => have := HJ3.out; have := HK2.out; have := HK3.out; omega
                                    case rel => exact ⟨(x13_3), (y1086), (wrap64 (x15_3 + 1)), (by first | rfl | (simp; done) | (simp [*]; done)), H', ⟨by have := HJ3.out; have := HK2.out; have := HK3.out; omega⟩, ⟨by (with_reducible repeat (first | apply Kd.R_alloc | apply Kd.R_drewN | apply Kd.R_drew)); exact HO_8.out⟩, ⟨by (with_reducible repeat (first | apply Kd.Q_alloc | apply Kd.Q_drewN | apply Kd.Q_drew)); exact Kd.Q_mono HO_13.out (fun _ hk => hk.2)⟩, ⟨by (with_reducible repeat (first | apply Kd.R_alloc | apply Kd.R_drewN | apply Kd.R_drew)); exact HO1088.out⟩, ⟨by repeat (first | (with_reducible first | exact HB.out | apply below_alloc | apply pw_below_drewN | apply below_drew1) | exact HB.out)⟩⟩
                                  · rw [if_neg c30] at H
                                    exact absurd H (by simp)
                                · replace c29 := Bool.eq_false_iff.mpr c29
                                  subst c29
                                  have H1 : (if 0 < (x13_3.length : Int) then (if x14_3.length < 4398046511104 then (if 1 ≤ (x13_3.length : Int) then (tidelineref06_Get.l1 k3 a2 t1074 (x13_3.drop (1 : Int).toNat) (x14_3 ++ [(⟨(rd_T39 x13_3 0).f0, (rd_T39 x13_3 0).f1, (rd_T39 x13_3 0).f2⟩ : S39)]) (wrap64 (x15_3 + 1))) else (none)) else (none)) else (none)) = some (r1, r2) := by rw [if_neg (show ¬ (false = true) by decide)] at H; exact H
                                  clear H
                                  have H := H1
                                  clear H1
                                  by_cases c33 : 0 < (x13_3.length : Int)
                                  · rw [if_pos c33] at H
                                    have c33b0 : decide (0 < (x13_3.length : Int)) = true := decide_eq_true c33
                                    have c33b1 : decide (0 < x13_3.length) = true := decide_eq_true (by omega)
                                    clear c33
                                    by_cases c34 : x14_3.length < 4398046511104
                                    · rw [if_pos c34] at H
                                      have LMc34 := Aside0.mk c34
                                      clear c34
                                      obtain ⟨y1090, hy1090⟩ : ∃ y_ : List (S39), y_ = (x14_3 ++ [(⟨(rd_T39 x13_3 0).f0, (rd_T39 x13_3 0).f1, (rd_T39 x13_3 0).f2⟩ : S39)]) := ⟨_, rfl⟩
                                      replace H : (if 1 ≤ (x13_3.length : Int) then (tidelineref06_Get.l1 k3 a2 t1074 (x13_3.drop (1 : Int).toNat) y1090 (wrap64 (x15_3 + 1))) else (none)) = some (r1, r2) := by first | (rw [hy1090]; with_reducible exact H) | (have H2_ := (Option.bind_some _ _).symm.trans H; rw [hy1090]; with_reducible exact H2_) | (have H2_ := (Option.bind_some _ _).symm.trans H; with_reducible exact H2_) | with_reducible exact H | (rw [hy1090]; exact H) | exact H
                                      have Ny1090 := Aside0.mk hy1090
                                      clear hy1090
                                      by_cases c35 : 1 ≤ (x13_3.length : Int)
                                      · rw [if_pos c35] at H
                                        have c35b0 := eq_true c35
                                        have c35b1 : decide (1 ≤ (x13_3.length : Int)) = true := decide_eq_true c35
                                        clear c35
                                        obtain ⟨y1093, hy1093⟩ : ∃ y_ : List (S39), y_ = (x13_3.drop (1 : Int).toNat) := ⟨_, rfl⟩
                                        replace H : (tidelineref06_Get.l1 k3 a2 t1074 y1093 y1090 (wrap64 (x15_3 + 1))) = some (r1, r2) := by first | (rw [hy1093]; with_reducible exact H) | (have H2_ := (Option.bind_some _ _).symm.trans H; rw [hy1093]; with_reducible exact H2_) | (have H2_ := (Option.bind_some _ _).symm.trans H; with_reducible exact H2_) | with_reducible exact H | (rw [hy1093]; exact H) | exact H
                                        have Ny1093 := Aside0.mk hy1093
                                        clear hy1093
                                        have H' := Aside0.mk H
                                        clear H
                                        obtain ⟨Ao36, co36, eo36⟩ := Kd.R_slice HO_8.out
                                        subst eo36
                                        have p1085 : 0 ≤ (x15_3 : Int) := of_decide_eq_true (by first | (with_reducible assumption) | assumption)
                                        have q1085 : x15_3 < (t1074.length : Int) := of_decide_eq_true (by first | (with_reducible assumption) | assumption)
                                        obtain ⟨ad1085, e1085, hx1085_0⟩ := Kd.at_bool (Kd.R_reads' HO_8.out).2.2 x15_3 p1085 q1085
                                        (try rw [← Nbq28.out] at hx1085_0)
                                        cases e1085
                                        replace p1085 := eq_true p1085
                                        replace q1085 := eq_true q1085
                                        obtain ⟨Ao37, co37, eo37, _⟩ := Kd.Q_slice HO_13.out
                                        subst eo37
                                        have p1089 : 0 ≤ (0 : Int) := (by omega)
                                        have q1089 : 0 < (x13_3.length : Int) := of_decide_eq_true (by first | (with_reducible assumption) | assumption)
                                        obtain ⟨ad1089, e1089, hx1089_0, hx1089_1, hx1089_2⟩ := at_T39 (Kd.Q_reads' HO_13.out).2.2 0 p1089 q1089
                                        cases e1089
                                        have qi1089 : (0 < x13_3.length) = True := eq_true (by omega)
                                        (try rw [show ((0 : Int)).toNat = 0 from rfl] at hx1089_0)
                                        (try rw [show 0 * 3 = 0 from rfl] at hx1089_0)
                                        (try rw [Addr.add_zero'] at hx1089_0)
                                        (try rw [show ((0 : Int)).toNat = 0 from rfl] at hx1089_1)
                                        (try rw [show 0 * 3 = 0 from rfl] at hx1089_1)
                                        (try rw [Addr.add_zero'] at hx1089_1)
                                        (try rw [show ((0 : Int)).toNat = 0 from rfl] at hx1089_2)
                                        (try rw [show 0 * 3 = 0 from rfl] at hx1089_2)
                                        (try rw [Addr.add_zero'] at hx1089_2)
                                        replace p1089 := eq_true p1089
                                        replace q1089 := eq_true q1089
                                        go_wp2_with (first | ((with_reducible refine gate_builtin (b := .append) (xs := #[.tmp 77, .tmp 81]) rfl ?_); at_builtin; refine Kd.R_append k39 (w0 := w) w.heap.size rfl (.tmp 77) (.tmp 81) 23 39 (.agg #[(.int .u8 0), (.int .i64 0), (.string ⟨#[]⟩)]) 32 rfl Try.underlying23 info39 rfl (by decide) (by omega) u14 x14_3 (⟨(rd_T39 x13_3 0).f0, (rd_T39 x13_3 0).f1, (rd_T39 x13_3 0).f2⟩ : S39) [.int .u8 ((rd_T39 x13_3 0).f0), .int .i64 ((rd_T39 x13_3 0).f1), .string ((rd_T39 x13_3 0).f2)] (fun k_ => some k_ ≠ (.slice (some ad1089) x13_3.length co37 : Value).ownBlock) (fun _ => False) rfl rfl ?aP (fun _ hk => hk.elim) ?aF ?aO ?aB ?aS ?aL ?_; (case aP => exact k39_mkM _ _ _ (⟨(rd_T39 x13_3 0).f0, (rd_T39 x13_3 0).f1, (rd_T39 x13_3 0).f2⟩ : S39)); (case aB => exact (by repeat (first | (with_reducible first | exact HB.out | apply below_alloc | apply pw_below_drewN | apply below_drew1) | exact HB.out))); (case aF => exact (fun k_ hk => Kd.fresh' (Kd.Q_lt (by (with_reducible repeat (first | apply Kd.Q_alloc | apply Kd.Q_drewN | apply Kd.Q_drew)); exact HO_13.out)) k_ hk)); (case aO => exact (by (with_reducible repeat (first | apply Kd.R_alloc | apply Kd.R_drewN | apply Kd.R_drew)); exact HO_14.out)); (case aS => exact (below_size (by repeat (first | (with_reducible first | exact HB.out | apply below_alloc | apply pw_below_drewN | apply below_drew1) | exact HB.out)))); (case aL => have := LMc34.out; omega); intro v1091 w38 ho hb hg hat; rw [← Ny1090.out] at ho; have n0_ := Aside0.mk (Kd.R_over' (by (with_reducible repeat (first | apply Kd.R_alloc | apply Kd.R_drewN | apply Kd.R_drew)); exact HO_8.out) (Kd.R_typed (by (with_reducible repeat (first | apply Kd.R_alloc | apply Kd.R_drewN | apply Kd.R_drew)); exact HO_14.out)) (by decide) hg); have n1_ := Aside0.mk (Kd.Q_after (ok := (fun _ => True)) (by (with_reducible repeat (first | apply Kd.Q_alloc | apply Kd.Q_drewN | apply Kd.Q_drew)); exact Kd.Q_mono HO_13.out (fun _ hk => ⟨trivial, hk⟩)) hg hat); have n2_ := Aside0.mk (hb); have n3_ := Aside0.mk (ho); clear HO_8; clear HO_13; clear HB; clear HO_14; have HO_8 := n0_; have HO_13 := n1_; have HB := n2_; have HO1092 := n3_; clear n0_ n1_ n2_ n3_; clear ho hb hg hat; have n_ := Aside0.mk (Kd.Q_mono (ok' := (fun k_ => some k_ ≠ (v1091 : Value).ownBlock)) HO_13.out (fun k_ hk => hk.2)); clear HO_13; have HO_13 := n_; clear n_; have q39 : (1 : Int) ≤ ((x13_3.length : Int) : Int) := of_decide_eq_true (by first | (with_reducible assumption) | assumption); obtain ⟨i039, hi039, _, hsz39, _⟩ := info_parts info39; have hcut39 := Go.Proofs.YtlmcefhpnfoahaaW.PrintWords.cut_from (P := Try.prog) 23 39 .i64 Try.underlying23 hi039 3 hsz39 (some ad1089) x13_3.length co37 1 (by omega) q39; have hr39 := Kd.Q_drop (k := (1 : Int).toNat) HO_13.out (by omega); obtain ⟨A39, hA39⟩ : ∃ A1, A1 = (if co37 = (1 : Int).toNat then (some ad1089) else ((some ad1089) : Option Addr).map (·.add ((1 : Int).toNat * 3))) := ⟨_, rfl⟩; obtain ⟨c39, hc39⟩ : ∃ c1, c1 = co37 - (1 : Int).toNat := ⟨_, rfl⟩; have hy39 : y1093.length = x13_3.length - (1 : Int).toNat := (by rw [Ny1093.out, List.length_drop]); rw [← Ny1093.out] at hr39; rw [← hy39, ← hA39, ← hc39] at hcut39; replace hr39 : Kd.Q k39 39 w38 w.heap.size (fun k_ => some k_ ≠ (v1091 : Value).ownBlock) (.slice A39 y1093.length c39) y1093 := (by rw [hA39, hc39, hy39]; exact hr39); have HE39 : Aside0 ((Value.slice A39 y1093.length c39).ownBlock = (.slice (some ad1089) x13_3.length co37 : Value).ownBlock) := ⟨by rw [hA39]; split <;> (cases ((some ad1089) : Option Addr) <;> rfl)⟩; clear hy39 hi039 hsz39 HO_13 hA39 hc39; have HO1095 := Aside0.mk hr39; clear hr39; replace q39 := eq_true q39; have n_ := Aside0.mk (Kd.R_mono (ok' := fun k_ => some k_ ≠ (.slice A39 y1093.length c39 : Value).ownBlock) HO1092.out (fun k_ hk => (by rw [HE39.out]; exact hk))); clear HO1092; have HO1092 := n_; clear n_))
                                        go_roundg k3
                                        case measure => have := HJ3.out; have := HK2.out; have := HK3.out; omega
                                        case rel => exact ⟨(y1093), (y1090), (wrap64 (x15_3 + 1)), (by first | rfl | (simp; done) | (simp [*]; done)), H', ⟨by have := HJ3.out; have := HK2.out; have := HK3.out; omega⟩, ⟨by (with_reducible repeat (first | apply Kd.R_alloc | apply Kd.R_drewN | apply Kd.R_drew)); exact HO_8.out⟩, ⟨by (with_reducible repeat (first | apply Kd.Q_alloc | apply Kd.Q_drewN | apply Kd.Q_drew)); exact HO1095.out⟩, ⟨by (with_reducible repeat (first | apply Kd.R_alloc | apply Kd.R_drewN | apply Kd.R_drew)); exact HO1092.out⟩, ⟨by repeat (first | (with_reducible first | exact HB.out | apply below_alloc | apply pw_below_drewN | apply below_drew1) | exact HB.out)⟩⟩
                                      · rw [if_neg c35] at H
                                        exact absurd H (by simp)
                                    · rw [if_neg c34] at H
                                      exact absurd H (by simp)
                                  · rw [if_neg c33] at H
                                    exact absurd H (by simp)
                              · rw [if_neg c27] at H
                                exact absurd H (by simp)
                            · rw [if_neg c26] at H
                              exact absurd H (by simp)
                          · rw [if_neg c25] at H
                            have c25b0 : decide (x15_3 < a2) = false := decide_eq_false c25
                            clear c25
                            simp only [Option.some.injEq, Prod.mk.injEq] at H
                            obtain ⟨rfl, rfl⟩ := H
                            go_wp2
                            go_ret2
                            exact ⟨_, by first | rfl | (simp [errW_none, errW_some] <;> rfl) | (simp [*, errW_none, errW_some] <;> rfl), by (with_reducible repeat (first | apply Kd.R_alloc | apply Kd.R_drewN | apply Kd.R_drew)); exact Kd.R_mono HO_14.out (fun _ hk => trivial), by repeat (first | (with_reducible first | exact HB.out | apply below_alloc | apply pw_below_drewN | apply below_drew1) | exact HB.out)⟩
                    · rw [if_neg c22] at H
                      have c22b0 : (t1082 == 0) = false := beq_eq_false_iff_ne.mpr c22
                      have c22b1 : (t1082 != 0) = true := bne_iff_ne.mpr c22
                      simp only [Option.some.injEq, Prod.mk.injEq] at H
                      obtain ⟨rfl, rfl⟩ := H
                      obtain ⟨i040, hi040, _, hsz40, _⟩ := info_parts info5
                      obtain ⟨A40, hcut40, hA40, hC40⟩ := print_drop_of (P := Try.prog) (Value.int .u8) 0 22 5 .i64 Try.underlying22 hi040 hsz40 A1 c1 l1 t1075 (of_decide_eq_true (by first | (with_reducible assumption) | assumption)) (of_decide_eq_true (by first | (with_reducible assumption) | assumption)) HC1.out
                      have HR1080 := Aside0.mk (Kd.C_of_reads (h1 := fun _ => rfl) (hA40 _ (Kd.reads_of_C HR1.out)))
                      have HC1080 := Aside0.mk hC40
                      clear hA40 hC40 hi040 hsz40
                      go_wp2_with (first | ((with_reducible refine gate_callee (f := 103) rfl ?_); refine goesL_ (some 58) rfl rfl Try.func103 (by kernel_rfl) rfl #[.int .u8 a0, .slice A40 (l1.drop (t1075 : Int).toNat).length (c1 - t1075.toNat), .int .i64 x11_2] rfl (by (try simp only [List.map_toArray, List.map_cons, List.map_nil]); first | done | (rw [show (l1.drop (t1075 : Int).toNat).length = (l1.length - t1075.toNat) from List.length_drop] <;> rfl) | rfl | (simp only [List.length_drop, List.length_take]; rfl)) ?_; (with_reducible refine (tidelineref06_marks.calls k2 a0 _ _ (l1.drop (t1075 : Int).toNat) x11_2 t1081 t1082 _ ?side1 ?side2 A21.out).mono ?_); (case side1 => repeat (first | exact (Kd.C_below HR1080.out HB.out) | (with_reducible refine Kd.C_alloc ?_ _) | (with_reducible refine Kd.C_drewN ?_ _) | (with_reducible refine Kd.C_drew ?_))); (case side2 => exact HC1080.out); rintro e w41 ⟨v1083, rfl, ho0, hb⟩; refine ⟨_, rfl, ?_⟩; have n0_ := Aside0.mk (Kd.R_below (by (with_reducible repeat (first | apply Kd.R_alloc | apply Kd.R_drewN | apply Kd.R_drew)); exact HO_8.out) hb); have n1_ := Aside0.mk (Kd.R_lower ho0 (below_size (by repeat (first | (with_reducible first | exact HB.out | apply below_alloc | apply pw_below_drewN | apply below_drew1) | exact HB.out)))); have n2_ := Aside0.mk (below_step (by repeat (first | (with_reducible first | exact HB.out | apply below_alloc | apply pw_below_drewN | apply below_drew1) | exact HB.out)) hb); clear HO_8; clear HB; have HO_8 := n0_; have HO1084 := n1_; have HB := n2_; clear n0_ n1_ n2_; (try clear hb); (try clear hb2); (try clear hk); (try clear hi); (try clear ho0)))
                      go_ret2
                      exact ⟨_, by first | rfl | (simp [errW_none, errW_some] <;> rfl) | (simp [*, errW_none, errW_some] <;> rfl), by first | exact Kd.R_nil _ _ _ _ _ | exact Kd.N_nil _ _ _ _ _ | exact Kd.V_nil _ _ _ _ _ | exact Kd.Q_nil _ _ _ _ _ | exact Kd.S_nil _ _ _ _ _, by repeat (first | (with_reducible first | exact HB.out | apply below_alloc | apply pw_below_drewN | apply below_drew1) | exact HB.out)⟩
                  · rw [if_neg c20] at H
                    exact absurd H (by simp)
                · rw [if_neg c19] at H
                  exact absurd H (by simp)
        · rw [if_neg c10] at H
          have c10b0 : (t1076 == 0) = false := beq_eq_false_iff_ne.mpr c10
          have c10b1 : (t1076 != 0) = true := bne_iff_ne.mpr c10
          simp only [Option.some.injEq, Prod.mk.injEq] at H
          obtain ⟨rfl, rfl⟩ := H
          go_wp2_with (first | ((with_reducible refine gate_callee (f := 102) rfl ?_); refine goesL_ (some 33) rfl rfl Try.func102 (by kernel_rfl) rfl #[.slice A1 l1.length c1, .int .i64 a2] rfl (by (try simp only [List.map_toArray, List.map_cons, List.map_nil]); first | done | rfl | (simp only [List.length_drop, List.length_take]; rfl)) ?_; (with_reducible refine (tidelineref06_bits.calls kj3 _ _ l1 a2 t1074 t1075 t1076 _ ?side1 ?side2 A9.out).mono ?_); (case side1 => repeat (first | exact (Kd.C_below HR1.out HB.out) | (with_reducible refine Kd.C_alloc ?_ _) | (with_reducible refine Kd.C_drewN ?_ _) | (with_reducible refine Kd.C_drew ?_))); (case side2 => exact HC1.out); rintro e w42 ⟨v1077, rfl, ho0, hb⟩; refine ⟨_, rfl, ?_⟩; have n0_ := Aside0.mk (Kd.R_lower ho0 (below_size (by repeat (first | (with_reducible first | exact HB.out | apply below_alloc | apply pw_below_drewN | apply below_drew1) | exact HB.out)))); have n1_ := Aside0.mk (below_step (by repeat (first | (with_reducible first | exact HB.out | apply below_alloc | apply pw_below_drewN | apply below_drew1) | exact HB.out)) hb); clear HB; have HO1078 := n0_; have HB := n1_; clear n0_ n1_; (try clear hb); (try clear hb2); (try clear hk); (try clear hi); (try clear ho0)))
          go_ret2
          exact ⟨_, by first | rfl | (simp [errW_none, errW_some] <;> rfl) | (simp [*, errW_none, errW_some] <;> rfl), by first | exact Kd.R_nil _ _ _ _ _ | exact Kd.N_nil _ _ _ _ _ | exact Kd.V_nil _ _ _ _ _ | exact Kd.Q_nil _ _ _ _ _ | exact Kd.S_nil _ _ _ _ _, by repeat (first | (with_reducible first | exact HB.out | apply below_alloc | apply pw_below_drewN | apply below_drew1) | exact HB.out)⟩

end Go.Proofs.Ytlmcefhpnfoahaa.P
end
