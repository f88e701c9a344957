/- Part 2 of what the laws of this chapter stand on: texts of this session, gathered. Condition: none beside those that each theorem states. -/
import Derived.Laws.EntriesVeiled
import Derived.JoinedOf
import Derived.KernelRfl
import Derived.Test.YtlmcefhpnfoahaaRows
import Derived.Test.YtlmcefhpnfoahaaBCOL1
section
namespace Go.Proofs.Ytlmcefhpnfoahaa.P
open Go.RowKit Go.Proofs.YtlmcefhpnfoahaaW.PrintWords Go.Proofs.YtlmcefhpnfoahaaW.PrintLast Go.Proofs.YtlmcefhpnfoahaaW.PrintMore
attribute [local go_sem] max2_int min2_int max_two min_two max_three min_three max_four min_four   -- for this text's walks alone
set_option linter.unusedVariables false
set_option linter.unusedSimpArgs false

mutual
def column_getTexts.l0 : Nat → List Int → Int → Int → List Int → List ByteArray → Int → Int → Option ((List (S39)) × Int)
  | 0, _, _, _, _, _, _, _ => none
  | k + 1, x0, x1, x6, x9, x10, x36, x37 => if x37 < x36 then ((varint_Get.f k x9).bind fun bt439 => (if bt439.2.2 = 0 then (if bt439.1 > (IntKind.u64.wrap (wrap64 ((x9.length : Int) - bt439.2.1))) then (some (([] : List (S39)), 20)) else (if 0 ≤ bt439.2.1 then (if bt439.2.1 ≤ (wrap64 (bt439.2.1 + (wrap64 (bt439.1)))) then (if (wrap64 (bt439.2.1 + (wrap64 (bt439.1)))) ≤ (x9.length : Int) then (if x10.length < 8796093022208 then (if 0 ≤ (wrap64 (bt439.2.1 + (wrap64 (bt439.1)))) then (column_getTexts.l0 k x0 x1 x6 (x9.drop ((wrap64 (bt439.2.1 + (wrap64 (bt439.1)))) : Int).toNat) (x10 ++ [strOfNums ((x9.take ((wrap64 (bt439.2.1 + (wrap64 (bt439.1)))) : Int).toNat).drop (bt439.2.1 : Int).toNat)]) x36 (IntKind.u64.wrap (x37 + 1))) else (none)) else (none)) else (none)) else (none)) else (none))) else (some (([] : List (S39)), bt439.2.2)))) else (column_getTexts.l1 k x0 x6 x9 x10 ([] : List (S39)) x1 0)
def column_getTexts.l1 : Nat → List Int → Int → List Int → List ByteArray → List (S39) → Int → Int → Option ((List (S39)) × Int)
  | 0, _, _, _, _, _, _, _ => none
  | k + 1, x0, x6, x9, x10, x14, x75, x76 => if x76 < x75 then ((varint_Get.f k x9).bind fun bt455 => (if bt455.2.2 = 0 then (if bt455.1 ≥ x6 then (some (([] : List (S39)), 21)) else (if 0 ≤ bt455.1 then (if bt455.1 < (x10.length : Int) then (if x14.length < 4398046511104 then (if 0 ≤ bt455.2.1 then (if bt455.2.1 ≤ (x9.length : Int) then (column_getTexts.l1 k x0 x6 (x9.drop (bt455.2.1 : Int).toNat) x10 (x14 ++ [(⟨3, 0, rdOf ByteArray.empty x10 bt455.1⟩ : S39)]) x75 (wrap64 (x76 + 1))) else (none)) else (none)) else (none)) else (none)) else (none))) else (some (([] : List (S39)), bt455.2.2)))) else ((column_putTexts.f x14).bind fun t467 => ((bytes_Equal.f t467 x0).bind fun t470 => (if t470 = true then (some (x14, 0)) else (some (([] : List (S39)), 21)))))
end
def column_getTexts.f (k : Nat) (l0 : List Int) (a1 : Int) : Option ((List (S39)) × Int) := (varint_Get.f k l0).bind fun bt431 => (if bt431.2.2 = 0 then (if bt431.1 > (IntKind.u64.wrap (a1)) then (some (([] : List (S39)), 21)) else (if 0 ≤ bt431.2.1 then (if bt431.2.1 ≤ (l0.length : Int) then (column_getTexts.l0 k l0 a1 bt431.1 (l0.drop (bt431.2.1 : Int).toNat) ([] : List ByteArray) bt431.1 0) else (none)) else (none))) else (some (([] : List (S39)), bt431.2.2)))
def column_getTexts.T26 : Bool × List (List Nat × List Nat) := (true, [([], []), ([], []), ([], []), ([1, 2], [1, 2]), ([3], [3]), ([4], [4]), ([5], [5]), ([0, 6], [0, 6]), ([], []), ([], []), ([8, 9], [8, 9]), ([7, 7, 0, 1, 2, 3, 4, 5, 6, 7], [0, 7]), ([10, 11, 0, 1, 2, 3, 4, 5, 6, 7, 8, 9, 10, 11], [8, 10])])
def column_getTexts.B26 : List Nat := [0, 0, 0, 6, 14, 30, 62, 127, 0, 0, 768, 255, 4095]
theorem column_getTexts.tab26 : rtab .any (opsOf Try.f138 26) = column_getTexts.T26 := by kernel_rfl
theorem column_getTexts.bits26 : waitsOk column_getTexts.T26.2 column_getTexts.B26 = true := by kernel_rfl
set_option maxHeartbeats 8000000 in
set_option maxRecDepth 100000 in
theorem column_getTexts.calls (k : Nat) (P0_ : Nat → Prop) (A0 : Option Addr) (c0 : Nat) (l0 : List Int) (a1 : Int) (r1 : List (S39)) (r2 : Int) (w : World) (hs0 : Kd.V (Kd.int .u8) 5 w w.heap.size (fun k_ => P0_ k_) (.slice A0 l0.length c0) l0) (h : column_getTexts.f k l0 a1 = some (r1, r2)) :
    Calls Try.prog 138 #[.slice A0 l0.length c0, .int .i64 a1] w fun e w' => ∃ v0_ : Value, e = .returned (.tuple #[v0_, .int .i64 r2]) ∧ Kd.R k39 39 w' w.heap.size (fun k_ => (w.heap.size ≤ k_)) v0_ r1 ∧ Below w.heap.size w w' := by
  have hu39 := Try.underlying39
  have HO0 := Aside0.mk (show Kd.V (Kd.int .u8) 5 w w.heap.size (fun k_ => (P0_ k_ ∨ w.heap.size ≤ k_)) (.slice A0 l0.length c0) l0 from Kd.V_mono hs0 (fun k_ hk => .inl hk))
  have HB := Aside0.mk (Below.refl w.heap.size w)
  have H : ((varint_Get.f k l0).bind fun bt431 => (if bt431.2.2 = 0 then (if bt431.1 > (IntKind.u64.wrap (a1)) then (some (([] : List (S39)), 21)) else (if 0 ≤ bt431.2.1 then (if bt431.2.1 ≤ (l0.length : Int) then (column_getTexts.l0 k l0 a1 bt431.1 (l0.drop (bt431.2.1 : Int).toNat) ([] : List ByteArray) bt431.1 0) else (none)) else (none))) else (some (([] : List (S39)), bt431.2.2)))) = some (r1, r2) := h
  clear h
  replace H := Option.bind_eq_some_iff.mp H
  obtain ⟨⟨t431, t432, t433⟩, A30, H⟩ := H
  replace H : (if t433 = 0 then (if t431 > (IntKind.u64.wrap (a1)) then (some (([] : List (S39)), 21)) else (if 0 ≤ t432 then (if t432 ≤ (l0.length : Int) then (column_getTexts.l0 k l0 a1 t431 (l0.drop (t432 : Int).toNat) ([] : List ByteArray) t431 0) else (none)) else (none))) else (some (([] : List (S39)), t433))) = some (r1, r2) := H
  have A3 := Aside0.mk A30
  clear A30
  by_cases c4 : t433 = 0
  · rw [if_pos c4] at H
    have c4b0 : (t433 == 0) = true := beq_iff_eq.mpr c4
    have c4b1 : (t433 != 0) = false := bne_eq_false_iff_eq.mpr c4
    clear c4
    by_cases c5 : t431 > (IntKind.u64.wrap (a1))
    · rw [if_pos c5] at H
      have c5b0 : decide ((IntKind.u64.wrap (a1)) < t431) = true := decide_eq_true c5
      clear c5
      simp only [Option.some.injEq, Prod.mk.injEq] at H
      obtain ⟨rfl, rfl⟩ := H
      go_enter Try.func138, Try.ntmps138
      go_wp2_with (first | ((with_reducible refine gate_callee (f := 126) rfl ?_); refine goesL_ (some 20) rfl rfl Try.func126 (by kernel_rfl) rfl #[.slice A0 l0.length c0] rfl (by (try simp only [List.map_toArray, List.map_cons, List.map_nil]); first | done | rfl | (simp only [List.length_drop, List.length_take]; rfl)) ?_; (with_reducible refine (varint_Get.calls k _ _ l0 t431 t432 t433 _ ?side1 ?side2 A3.out).mono ?_); (case side1 => repeat (first | exact (Kd.V_reads' HO0.out).2.2 | (with_reducible refine Kd.C_alloc ?_ _) | (with_reducible refine Kd.C_drewN ?_ _) | (with_reducible refine Kd.C_drew ?_))); (case side2 => exact (Kd.V_reads' HO0.out).2.1); rintro e w' ⟨rfl, ⟨nd, rfl⟩⟩; refine ⟨_, rfl, ?_⟩))
      go_ret2
      exact ⟨_, by first | rfl | (simp [errW_none, errW_some] <;> rfl) | (simp [*, errW_none, errW_some] <;> rfl), by first | exact Kd.R_nil _ _ _ _ _ | exact Kd.N_nil _ _ _ _ _ | exact Kd.V_nil _ _ _ _ _ | exact Kd.Q_nil _ _ _ _ _ | exact Kd.S_nil _ _ _ _ _, by repeat (first | (with_reducible first | exact HB.out | apply below_alloc | apply pw_below_drewN | apply below_drew1) | exact HB.out)⟩
    · rw [if_neg c5] at H
      have c5b0 : decide ((IntKind.u64.wrap (a1)) < t431) = false := decide_eq_false c5
      clear c5
      by_cases c6 : 0 ≤ t432
      · rw [if_pos c6] at H
        have c6b0 := eq_true c6
        have c6b1 : decide (0 ≤ t432) = true := decide_eq_true c6
        clear c6
        by_cases c7 : t432 ≤ (l0.length : Int)
        · rw [if_pos c7] at H
          have c7b0 := eq_true c7
          have c7b1 : decide (t432 ≤ (l0.length : Int)) = true := decide_eq_true c7
          clear c7
          obtain ⟨y434, hy434⟩ : ∃ y_ : List Int, y_ = (l0.drop (t432 : Int).toNat) := ⟨_, rfl⟩
          replace H : (column_getTexts.l0 k l0 a1 t431 y434 ([] : List ByteArray) t431 0) = some (r1, r2) := by first | (rw [hy434]; with_reducible exact H) | (have H2_ := (Option.bind_some _ _).symm.trans H; rw [hy434]; with_reducible exact H2_) | (have H2_ := (Option.bind_some _ _).symm.trans H; with_reducible exact H2_) | with_reducible exact H | (rw [hy434]; exact H) | exact H
          have Ny434 := Aside0.mk hy434
          clear hy434
          have H' := Aside0.mk H
          clear H
          go_enter Try.func138, Try.ntmps138
          go_wp2_with (first | ((with_reducible refine gate_callee (f := 126) rfl ?_); refine goesL_ (some 20) rfl rfl Try.func126 (by kernel_rfl) rfl #[.slice A0 l0.length c0] rfl (by (try simp only [List.map_toArray, List.map_cons, List.map_nil]); first | done | rfl | (simp only [List.length_drop, List.length_take]; rfl)) ?_; (with_reducible refine (varint_Get.calls k _ _ l0 t431 t432 t433 _ ?side1 ?side2 A3.out).mono ?_); (case side1 => repeat (first | exact (Kd.V_reads' HO0.out).2.2 | (with_reducible refine Kd.C_alloc ?_ _) | (with_reducible refine Kd.C_drewN ?_ _) | (with_reducible refine Kd.C_drew ?_))); (case side2 => exact (Kd.V_reads' HO0.out).2.1); rintro e w' ⟨rfl, ⟨nd, rfl⟩⟩; refine ⟨_, rfl, ?_⟩; have q8 : (t432 : Int) ≤ ((l0.length : Int) : Int) := of_decide_eq_true (by first | (with_reducible assumption) | assumption); obtain ⟨i08, hi08, _, hsz8, _⟩ := info_parts info5; have hroom8 : l0.length ≤ c0 := (Kd.V_reads' HO0.out).2.1; have hC8 : Kd.F (Kd.int .u8) _ _ A0 l0.length l0 := (Kd.V_at (base := w.heap.size) HO0.out).2.2; have q08 : (0 : Int) ≤ (t432 : Int) := of_decide_eq_true (by first | (with_reducible assumption) | assumption); have hcut8 := Go.Proofs.YtlmcefhpnfoahaaW.PrintWords.cut_from (P := Try.prog) 22 5 .i64 Try.underlying22 hi08 1 hsz8 A0 l0.length c0 t432 q08 q8; have hr8 := Kd.F_cut (m := (t432 : Int).toNat) (c := c0) hC8 (by omega) hroom8; obtain ⟨A8, hA8⟩ : ∃ A1, A1 = (if c0 = (t432 : Int).toNat then A0 else (A0 : Option Addr).map (·.add ((t432 : Int).toNat * 1))) := ⟨_, rfl⟩; obtain ⟨c8, hc8⟩ : ∃ c1, c1 = c0 - (t432 : Int).toNat := ⟨_, rfl⟩; have hy8 : y434.length = l0.length - (t432 : Int).toNat := (by rw [Ny434.out, List.length_drop] <;> omega); rw [show (l0).drop (t432 : Int).toNat = y434 from Ny434.out.symm] at hr8; replace hr8 : Kd.F (Kd.int .u8) _ _ A8 y434.length y434 := (by rw [hA8]; exact hr8); rw [← hy8, ← hA8, ← hc8] at hcut8; have HO438 := Aside0.mk (show Kd.V (Kd.int .u8) 5 _ w.heap.size _ (.slice A8 y434.length c8) y434 from Kd.V_mk (by rw [hy8, hc8]; exact Nat.sub_le_sub_right hroom8 _) hr8); have HC438 := Aside0.mk (show y434.length ≤ c8 from by rw [hy8, hc8]; exact Nat.sub_le_sub_right hroom8 _); clear hr8 hC8 hroom8 hi08 hsz8 hc8; have KY8 := Aside0.mk hy8; have KA8 := Aside0.mk hA8; clear hy8 hA8; replace q8 := eq_true q8))
          go_loopg [9, 10, 37] k (fun kq v9 v10 v37 w' => ∃ (x9_1 : List Int) (x10_1 : List ByteArray) (x37_1 : Int), v37 = .int .u64 x37_1 ∧ Aside0 (column_getTexts.l0 kq l0 a1 t431 x9_1 x10_1 t431 x37_1 = some (r1, r2)) ∧ Aside0 (kq ≤ k) ∧ Aside0 (Kd.V (Kd.int .u8) 5 w' w.heap.size (fun k_ => (P0_ k_ ∨ w.heap.size ≤ k_) ∧ some k_ ≠ (v10 : Value).ownBlock) (.slice A0 l0.length c0) l0) ∧ Aside0 (Kd.V (Kd.int .u8) 5 w' w.heap.size (fun k_ => (P0_ k_ ∨ w.heap.size ≤ k_) ∧ some k_ ≠ (v10 : Value).ownBlock) v9 x9_1) ∧ Aside0 (Kd.R Kd.string 9 w' w.heap.size (fun k_ => (w.heap.size ≤ k_)) v10 x10_1) ∧ Aside0 (Below w.heap.size w w'))
          case atStart => exact ⟨(y434), (([] : List ByteArray)), (0), (by first | rfl | (simp; done) | (simp [*]; done)), H', ⟨Nat.le_refl _⟩, ⟨by (with_reducible repeat (first | apply Kd.V_alloc | apply Kd.V_drewN | apply Kd.V_drew)); exact Kd.V_mono HO0.out (fun _ hk => ⟨hk, (by simp [Value.ownBlock])⟩)⟩, ⟨by (with_reducible repeat (first | apply Kd.V_alloc | apply Kd.V_drewN | apply Kd.V_drew)); exact Kd.V_mono HO438.out (fun _ hk => ⟨hk, (by simp [Value.ownBlock])⟩)⟩, ⟨by first | exact Kd.R_nil _ _ _ _ _ | exact Kd.N_nil _ _ _ _ _ | exact Kd.V_nil _ _ _ _ _ | exact Kd.Q_nil _ _ _ _ _ | exact Kd.S_nil _ _ _ _ _⟩, ⟨by repeat (first | (with_reducible first | exact HB.out | apply below_alloc | apply pw_below_drewN | apply below_drew1) | exact HB.out)⟩⟩
          case round =>
            clear H'
            try clear c1
            try clear p2
            try clear c4
            try clear c4b0
            try clear c4b1
            try clear c5
            try clear c5b0
            try clear c6
            try clear c6b0
            try clear c6b1
            try clear c7
            try clear c7b0
            try clear c7b1
            try clear c8
            try clear q8
            try clear q08
            try clear q8
            obtain ⟨x9_1, x10_1, x37_1, rfl, HA, HK1, HO_0, HO_9, HO_10, HB⟩ := hrel
            cases gk with
            | zero => exact absurd HA.out (by simp [column_getTexts.l0])
            | succ k1 =>
              have H := HA.out
              clear HA
              simp only [column_getTexts.l0] at H
              by_cases c9 : x37_1 < t431
              · rw [if_pos c9] at H
                have c9b0 : decide (x37_1 < t431) = true := decide_eq_true c9
                clear c9
                replace H := Option.bind_eq_some_iff.mp H
                obtain ⟨⟨t439, t440, t441⟩, A100, H⟩ := H
                replace H : (if t441 = 0 then (if t439 > (IntKind.u64.wrap (wrap64 ((x9_1.length : Int) - t440))) then (some (([] : List (S39)), 20)) else (if 0 ≤ t440 then (if t440 ≤ (wrap64 (t440 + (wrap64 (t439)))) then (if (wrap64 (t440 + (wrap64 (t439)))) ≤ (x9_1.length : Int) then (if x10_1.length < 8796093022208 then (if 0 ≤ (wrap64 (t440 + (wrap64 (t439)))) then (column_getTexts.l0 k1 l0 a1 t431 (x9_1.drop ((wrap64 (t440 + (wrap64 (t439)))) : Int).toNat) (x10_1 ++ [strOfNums ((x9_1.take ((wrap64 (t440 + (wrap64 (t439)))) : Int).toNat).drop (t440 : Int).toNat)]) t431 (IntKind.u64.wrap (x37_1 + 1))) else (none)) else (none)) else (none)) else (none)) else (none))) else (some (([] : List (S39)), t441))) = some (r1, r2) := H
                have A10 := Aside0.mk A100
                clear A100
                by_cases c11 : t441 = 0
                · rw [if_pos c11] at H
                  have c11b0 : (t441 == 0) = true := beq_iff_eq.mpr c11
                  have c11b1 : (t441 != 0) = false := bne_eq_false_iff_eq.mpr c11
                  clear c11
                  by_cases c12 : t439 > (IntKind.u64.wrap (wrap64 ((x9_1.length : Int) - t440)))
                  · rw [if_pos c12] at H
                    have c12b0 : decide ((IntKind.u64.wrap (wrap64 ((x9_1.length : Int) - t440))) < t439) = true := decide_eq_true c12
                    clear c12
                    simp only [Option.some.injEq, Prod.mk.injEq] at H
                    obtain ⟨rfl, rfl⟩ := H
                    obtain ⟨Ao13, co13, eo13⟩ := Kd.V_slice HO_9.out
                    subst eo13
                    go_wp2_with (first | ((with_reducible refine gate_callee (f := 126) rfl ?_); refine goesL_ (some 41) rfl rfl Try.func126 (by kernel_rfl) rfl #[.slice Ao13 x9_1.length co13] rfl (by (try simp only [List.map_toArray, List.map_cons, List.map_nil]); first | done | rfl | (simp only [List.length_drop, List.length_take]; rfl)) ?_; (with_reducible refine (varint_Get.calls k1 _ _ x9_1 t439 t440 t441 _ ?side1 ?side2 A10.out).mono ?_); (case side1 => repeat (first | exact (Kd.V_reads' HO_9.out).2.2 | (with_reducible refine Kd.C_alloc ?_ _) | (with_reducible refine Kd.C_drewN ?_ _) | (with_reducible refine Kd.C_drew ?_))); (case side2 => exact (Kd.V_reads' HO_9.out).2.1); rintro e w' ⟨rfl, ⟨nd, rfl⟩⟩; refine ⟨_, rfl, ?_⟩))
                    go_ret2
                    exact ⟨_, by first | rfl | (simp [errW_none, errW_some] <;> rfl) | (simp [*, errW_none, errW_some] <;> rfl), by first | exact Kd.R_nil _ _ _ _ _ | exact Kd.N_nil _ _ _ _ _ | exact Kd.V_nil _ _ _ _ _ | exact Kd.Q_nil _ _ _ _ _ | exact Kd.S_nil _ _ _ _ _, by repeat (first | (with_reducible first | exact HB.out | apply below_alloc | apply pw_below_drewN | apply below_drew1) | exact HB.out)⟩
                  · rw [if_neg c12] at H
                    have c12b0 : decide ((IntKind.u64.wrap (wrap64 ((x9_1.length : Int) - t440))) < t439) = false := decide_eq_false c12
                    clear c12
                    by_cases c14 : 0 ≤ t440
                    · rw [if_pos c14] at H
                      have c14b0 := eq_true c14
                      have c14b1 : decide (0 ≤ t440) = true := decide_eq_true c14
                      clear c14
                      by_cases c15 : t440 ≤ (wrap64 (t440 + (wrap64 (t439))))
                      · rw [if_pos c15] at H
                        have c15b0 := eq_true c15
                        have c15b1 : decide (t440 ≤ (wrap64 (t440 + (wrap64 (t439))))) = true := decide_eq_true c15
                        by_cases c16 : (wrap64 (t440 + (wrap64 (t439)))) ≤ (x9_1.length : Int)
                        · rw [if_pos c16] at H
                          have c16b0 := eq_true c16
                          have c16b1 : decide ((wrap64 (t440 + (wrap64 (t439)))) ≤ (x9_1.length : Int)) = true := decide_eq_true c16
                          obtain ⟨y442, hy442⟩ : ∃ y_ : List Int, y_ = ((x9_1.take ((wrap64 (t440 + (wrap64 (t439)))) : Int).toNat).drop (t440 : Int).toNat) := ⟨_, rfl⟩
                          replace H : (if x10_1.length < 8796093022208 then (if 0 ≤ (wrap64 (t440 + (wrap64 (t439)))) then (column_getTexts.l0 k1 l0 a1 t431 (x9_1.drop ((wrap64 (t440 + (wrap64 (t439)))) : Int).toNat) (x10_1 ++ [strOfNums y442]) t431 (IntKind.u64.wrap (x37_1 + 1))) else (none)) else (none)) = some (r1, r2) := by first | (rw [hy442]; with_reducible exact H) | (have H2_ := (Option.bind_some _ _).symm.trans H; rw [hy442]; with_reducible exact H2_) | (have H2_ := (Option.bind_some _ _).symm.trans H; with_reducible exact H2_) | with_reducible exact H | (rw [hy442]; exact H) | exact H
                          have Ny442 := Aside0.mk hy442
                          clear hy442
                          by_cases c17 : x10_1.length < 8796093022208
                          · rw [if_pos c17] at H
                            have LMc17 := Aside0.mk c17
                            clear c17
                            obtain ⟨y447, hy447⟩ : ∃ y_ : List ByteArray, y_ = (x10_1 ++ [strOfNums y442]) := ⟨_, rfl⟩
                            replace H : (if 0 ≤ (wrap64 (t440 + (wrap64 (t439)))) then (column_getTexts.l0 k1 l0 a1 t431 (x9_1.drop ((wrap64 (t440 + (wrap64 (t439)))) : Int).toNat) y447 t431 (IntKind.u64.wrap (x37_1 + 1))) else (none)) = some (r1, r2) := by first | (rw [hy447]; with_reducible exact H) | (have H2_ := (Option.bind_some _ _).symm.trans H; rw [hy447]; with_reducible exact H2_) | (have H2_ := (Option.bind_some _ _).symm.trans H; with_reducible exact H2_) | with_reducible exact H | (rw [hy447]; exact H) | exact H
                            have Ny447 := Aside0.mk hy447
                            clear hy447
                            obtain ⟨ji18, hji18⟩ : ∃ j_ : Int, (wrap64 (t440 + (wrap64 (t439)))) = j_ := ⟨_, rfl⟩
                            replace H : (if 0 ≤ (ji18) then (column_getTexts.l0 k1 l0 a1 t431 (x9_1.drop ((ji18) : Int).toNat) y447 t431 (IntKind.u64.wrap (x37_1 + 1))) else (none)) = some (r1, r2) := by first | (rw [hji18] at H; exact H) | (simp only [hji18] at H ⊢; exact H)
                            (try rw [hji18] at c15b0)
                            (try rw [hji18] at c15b1)
                            (try rw [hji18] at c15)
                            (try rw [hji18] at c16b0)
                            (try rw [hji18] at c16b1)
                            (try rw [hji18] at c16)
                            (try rw [hji18] at A10)
                            (try rw [hji18] at Ny442)
                            (try rw [hji18] at Ny442)
                            have hji18w : (IntKind.i64.wrap (t440 + (wrap64 (t439)))) = ji18 := (i64_w _).trans hji18
                            by_cases c19 : 0 ≤ (ji18)
                            · rw [if_pos c19] at H
                              have c19b0 := eq_true c19
                              have c19b1 : decide (0 ≤ (ji18)) = true := decide_eq_true c19
                              clear c19
                              have c20b0 := eq_true (of_decide_eq_true (by first | (with_reducible assumption) | assumption) : (ji18) ≤ (x9_1.length : Int))
                              obtain ⟨y450, hy450⟩ : ∃ y_ : List Int, y_ = (x9_1.drop ((ji18) : Int).toNat) := ⟨_, rfl⟩
                              replace H : (column_getTexts.l0 k1 l0 a1 t431 y450 y447 t431 (IntKind.u64.wrap (x37_1 + 1))) = some (r1, r2) := by first | (rw [hy450]; with_reducible exact H) | (have H2_ := (Option.bind_some _ _).symm.trans H; rw [hy450]; with_reducible exact H2_) | (have H2_ := (Option.bind_some _ _).symm.trans H; with_reducible exact H2_) | with_reducible exact H | (rw [hy450]; exact H) | exact H
                              have Ny450 := Aside0.mk hy450
                              clear hy450
                              have H' := Aside0.mk H
                              clear H
                              obtain ⟨Ao21, co21, eo21⟩ := Kd.V_slice HO_9.out
                              subst eo21
                              go_wp2_with (first | ((with_reducible refine gate_callee (f := 126) rfl ?_); refine goesL_ (some 41) rfl rfl Try.func126 (by kernel_rfl) rfl #[.slice Ao21 x9_1.length co21] rfl (by (try simp only [List.map_toArray, List.map_cons, List.map_nil]); first | done | rfl | (simp only [List.length_drop, List.length_take]; rfl)) ?_; (with_reducible refine (varint_Get.calls k1 _ _ x9_1 t439 t440 t441 _ ?side1 ?side2 A10.out).mono ?_); (case side1 => repeat (first | exact (Kd.V_reads' HO_9.out).2.2 | (with_reducible refine Kd.C_alloc ?_ _) | (with_reducible refine Kd.C_drewN ?_ _) | (with_reducible refine Kd.C_drew ?_))); (case side2 => exact (Kd.V_reads' HO_9.out).2.1); rintro e w' ⟨rfl, ⟨nd, rfl⟩⟩; refine ⟨_, rfl, ?_⟩; have q22 : ((ji18) : Int) ≤ ((x9_1.length : Int) : Int) := of_decide_eq_true (by first | (with_reducible assumption) | assumption); obtain ⟨i022, hi022, _, hsz22, _⟩ := info_parts info5; have hroom22 : x9_1.length ≤ co21 := (Kd.V_reads' HO_9.out).2.1; have hC22 : Kd.F (Kd.int .u8) _ _ Ao21 x9_1.length x9_1 := (Kd.V_at (base := w.heap.size) HO_9.out).2.2; have ql22 : (t440 : Int) ≤ ((ji18) : Int) := of_decide_eq_true (by first | (with_reducible assumption) | assumption); have q022 : (0 : Int) ≤ (t440 : Int) := of_decide_eq_true (by first | (with_reducible assumption) | assumption); have hcut22 := Go.Proofs.YtlmcefhpnfoahaaW.PrintWords.cut_mid (P := Try.prog) 22 5 .i64 .i64 Try.underlying22 hi022 1 hsz22 Ao21 x9_1.length co21 t440 (ji18) q022 ql22 q22 hroom22; have hr22 := Kd.F_mid (lo := (t440 : Int).toNat) (hi := ((ji18) : Int).toNat) (c := co21) hC22 (by omega) (by omega) hroom22; obtain ⟨A22, hA22⟩ : ∃ A1, A1 = (if co21 = (t440 : Int).toNat then Ao21 else (Ao21 : Option Addr).map (·.add ((t440 : Int).toNat * 1))) := ⟨_, rfl⟩; obtain ⟨c22, hc22⟩ : ∃ c1, c1 = co21 - (t440 : Int).toNat := ⟨_, rfl⟩; have hy22 : y442.length = ((ji18) : Int).toNat - (t440 : Int).toNat := (by rw [Ny442.out, List.length_drop, List.length_take] <;> omega); rw [show ((x9_1).take ((ji18) : Int).toNat).drop (t440 : Int).toNat = y442 from Ny442.out.symm] at hr22; replace hr22 : Kd.F (Kd.int .u8) _ _ A22 y442.length y442 := (by rw [hA22]; exact hr22); rw [← hy22, ← hA22, ← hc22] at hcut22; have HO446 := Aside0.mk (show Kd.V (Kd.int .u8) 5 _ w.heap.size _ (.slice A22 y442.length c22) y442 from Kd.V_mk (by rw [hy22, hc22]; exact Nat.sub_le_sub_right (Nat.le_trans (by omega) hroom22) _) hr22); have HC446 := Aside0.mk (show y442.length ≤ c22 from by rw [hy22, hc22]; exact Nat.sub_le_sub_right (Nat.le_trans (by omega) hroom22) _); clear hr22 hC22 hroom22 hi022 hsz22 hc22; have KY22 := Aside0.mk hy22; have KA22 := Aside0.mk hA22; clear hy22 hA22; replace q22 := eq_true q22; have hcv23 := fun q : Nat => Kd.C_string (P := Try.prog) (c := c22) Try.underlying22 Try.underlying5 Try.underlying9 (Kd.C_drewN (Kd.V_reads' HO446.out).2.2 q)) | ((with_reducible refine gate_builtin (b := .append) (xs := #[.tmp 57, .tmp 66]) rfl ?_); at_builtin; refine Kd.R_append Kd.string (w0 := w) w.heap.size rfl (.tmp 57) (.tmp 66) 151 9 (.string ⟨#[]⟩) 16 rfl Try.underlying151 info9 rfl (by decide) (by omega) u10 x10_1 (strOfNums y442) [.string (strOfNums y442)] (fun k_ => (w.heap.size ≤ k_)) (fun _ => False) rfl rfl ?aP (fun _ hk => hk.elim) ?aF ?aO ?aB ?aS ?aL ?_; (case aP => exact rfl); (case aB => exact (by repeat (first | (with_reducible first | exact HB.out | apply below_alloc | apply pw_below_drewN | apply below_drew1) | exact HB.out))); (case aF => exact (fun k_ hk => (Nat.le_trans (below_size (by repeat (first | (with_reducible first | exact HB.out | apply below_alloc | apply pw_below_drewN | apply below_drew1) | exact HB.out))) hk))); (case aO => exact (by (with_reducible repeat (first | apply Kd.R_alloc | apply Kd.R_drewN | apply Kd.R_drew)); exact HO_10.out)); (case aS => exact (below_size (by repeat (first | (with_reducible first | exact HB.out | apply below_alloc | apply pw_below_drewN | apply below_drew1) | exact HB.out)))); (case aL => have := LMc17.out; omega); intro v448 w24 ho hb hg hat; rw [← Ny447.out] at ho; have n0_ := Aside0.mk (Kd.V_afterv (ok := (fun k_ => (P0_ k_ ∨ w.heap.size ≤ k_))) (by (with_reducible repeat (first | apply Kd.V_alloc | apply Kd.V_drewN | apply Kd.V_drew)); exact HO_0.out) hg hat); have n1_ := Aside0.mk (Kd.V_afterv (ok := (fun k_ => (P0_ k_ ∨ w.heap.size ≤ k_))) (by (with_reducible repeat (first | apply Kd.V_alloc | apply Kd.V_drewN | apply Kd.V_drew)); exact HO_9.out) hg hat); have n2_ := Aside0.mk (Kd.V_afterv (ok := (fun k_ => (P0_ k_ ∨ w.heap.size ≤ k_))) (by (with_reducible repeat (first | apply Kd.V_alloc | apply Kd.V_drewN | apply Kd.V_drew)); exact HO446.out) hg hat); have n3_ := Aside0.mk (hb); have n4_ := Aside0.mk (ho); clear HO_0; clear HO_9; clear HO446; clear HB; clear HO_10; have HO_0 := n0_; have HO_9 := n1_; have HO446 := n2_; have HB := n3_; have HO449 := n4_; clear n0_ n1_ n2_ n3_ n4_; clear ho hb hg hat; have q25 : ((ji18) : Int) ≤ ((x9_1.length : Int) : Int) := of_decide_eq_true (by first | (with_reducible assumption) | assumption); obtain ⟨i025, hi025, _, hsz25, _⟩ := info_parts info5; have hroom25 : x9_1.length ≤ co21 := (Kd.V_reads' HO_9.out).2.1; have hC25 : Kd.F (Kd.int .u8) _ _ Ao21 x9_1.length x9_1 := (Kd.V_at (base := w.heap.size) HO_9.out).2.2; have q025 : (0 : Int) ≤ ((ji18) : Int) := of_decide_eq_true (by first | (with_reducible assumption) | assumption); have hcut25 := Go.Proofs.YtlmcefhpnfoahaaW.PrintWords.cut_from (P := Try.prog) 22 5 .i64 Try.underlying22 hi025 1 hsz25 Ao21 x9_1.length co21 (ji18) q025 q25; have hr25 := Kd.F_cut (m := ((ji18) : Int).toNat) (c := co21) hC25 (by omega) hroom25; obtain ⟨A25, hA25⟩ : ∃ A1, A1 = (if co21 = ((ji18) : Int).toNat then Ao21 else (Ao21 : Option Addr).map (·.add (((ji18) : Int).toNat * 1))) := ⟨_, rfl⟩; obtain ⟨c25, hc25⟩ : ∃ c1, c1 = co21 - ((ji18) : Int).toNat := ⟨_, rfl⟩; have hy25 : y450.length = x9_1.length - ((ji18) : Int).toNat := (by rw [Ny450.out, List.length_drop] <;> omega); rw [show (x9_1).drop ((ji18) : Int).toNat = y450 from Ny450.out.symm] at hr25; replace hr25 : Kd.F (Kd.int .u8) _ _ A25 y450.length y450 := (by rw [hA25]; exact hr25); rw [← hy25, ← hA25, ← hc25] at hcut25; have HO454 := Aside0.mk (show Kd.V (Kd.int .u8) 5 _ w.heap.size _ (.slice A25 y450.length c25) y450 from Kd.V_mk (by rw [hy25, hc25]; exact Nat.sub_le_sub_right hroom25 _) hr25); have HC454 := Aside0.mk (show y450.length ≤ c25 from by rw [hy25, hc25]; exact Nat.sub_le_sub_right hroom25 _); clear hr25 hC25 hroom25 hi025 hsz25 hc25; have KY25 := Aside0.mk hy25; have KA25 := Aside0.mk hA25; clear hy25 hA25; replace q25 := eq_true q25))
                              go_roundg k1
                              case measure => have := HK1.out; omega
                              case rel => exact ⟨(y450), (y447), (IntKind.u64.wrap (x37_1 + 1)), (by first | rfl | (simp; done) | (simp [*]; done)), H', ⟨by have := HK1.out; omega⟩, ⟨by (with_reducible repeat (first | apply Kd.V_alloc | apply Kd.V_drewN | apply Kd.V_drew)); exact HO_0.out⟩, ⟨by (with_reducible repeat (first | apply Kd.V_alloc | apply Kd.V_drewN | apply Kd.V_drew)); exact HO454.out⟩, ⟨by (with_reducible repeat (first | apply Kd.R_alloc | apply Kd.R_drewN | apply Kd.R_drew)); exact HO449.out⟩, ⟨by repeat (first | (with_reducible first | exact HB.out | apply below_alloc | apply pw_below_drewN | apply below_drew1) | exact HB.out)⟩⟩
                            · rw [if_neg c19] at H
                              exact absurd H (by simp)
                          · rw [if_neg c17] at H
                            exact absurd H (by simp)
                        · rw [if_neg c16] at H
                          exact absurd H (by simp)
                      · rw [if_neg c15] at H
                        exact absurd H (by simp)
                    · rw [if_neg c14] at H
                      exact absurd H (by simp)
                · rw [if_neg c11] at H
                  have c11b0 : (t441 == 0) = false := beq_eq_false_iff_ne.mpr c11
                  have c11b1 : (t441 != 0) = true := bne_iff_ne.mpr c11
                  simp only [Option.some.injEq, Prod.mk.injEq] at H
                  obtain ⟨rfl, rfl⟩ := H
                  obtain ⟨Ao26, co26, eo26⟩ := Kd.V_slice HO_9.out
                  subst eo26
                  go_wp2_with (first | ((with_reducible refine gate_callee (f := 126) rfl ?_); refine goesL_ (some 41) rfl rfl Try.func126 (by kernel_rfl) rfl #[.slice Ao26 x9_1.length co26] rfl (by (try simp only [List.map_toArray, List.map_cons, List.map_nil]); first | done | rfl | (simp only [List.length_drop, List.length_take]; rfl)) ?_; (with_reducible refine (varint_Get.calls k1 _ _ x9_1 t439 t440 t441 _ ?side1 ?side2 A10.out).mono ?_); (case side1 => repeat (first | exact (Kd.V_reads' HO_9.out).2.2 | (with_reducible refine Kd.C_alloc ?_ _) | (with_reducible refine Kd.C_drewN ?_ _) | (with_reducible refine Kd.C_drew ?_))); (case side2 => exact (Kd.V_reads' HO_9.out).2.1); rintro e w' ⟨rfl, ⟨nd, rfl⟩⟩; refine ⟨_, rfl, ?_⟩))
                  go_ret2
                  exact ⟨_, by first | rfl | (simp [errW_none, errW_some] <;> rfl) | (simp [*, errW_none, errW_some] <;> rfl), by first | exact Kd.R_nil _ _ _ _ _ | exact Kd.N_nil _ _ _ _ _ | exact Kd.V_nil _ _ _ _ _ | exact Kd.Q_nil _ _ _ _ _ | exact Kd.S_nil _ _ _ _ _, by repeat (first | (with_reducible first | exact HB.out | apply below_alloc | apply pw_below_drewN | apply below_drew1) | exact HB.out)⟩
              · rw [if_neg c9] at H
                have c9b0 : decide (x37_1 < t431) = false := decide_eq_false c9
                clear c9
                have H' := Aside0.mk H
                clear H
                go_wp2
                go_loopg [9, 14, 76] k1 (fun kq v9 v14 v76 w' => ∃ (x9_2 : List Int) (x14_2 : List (S39)) (x76_2 : Int), v76 = .int .i64 x76_2 ∧ Aside0 (column_getTexts.l1 kq l0 t431 x9_2 x10_1 x14_2 a1 x76_2 = some (r1, r2)) ∧ Aside0 (kq ≤ k1) ∧ Aside0 (Kd.V (Kd.int .u8) 5 w' w.heap.size (fun k_ => (P0_ k_ ∨ w.heap.size ≤ k_) ∧ some k_ ≠ (u10 : Value).ownBlock ∧ some k_ ≠ (v14 : Value).ownBlock) (.slice A0 l0.length c0) l0) ∧ Aside0 (Kd.V (Kd.int .u8) 5 w' w.heap.size (fun k_ => (P0_ k_ ∨ w.heap.size ≤ k_) ∧ some k_ ≠ (u10 : Value).ownBlock ∧ some k_ ≠ (v14 : Value).ownBlock) v9 x9_2) ∧ Aside0 (Kd.R Kd.string 9 w' w.heap.size (fun k_ => (w.heap.size ≤ k_)) u10 x10_1) ∧ Aside0 (Kd.R k39 39 w' w.heap.size (fun k_ => (w.heap.size ≤ k_)) v14 x14_2) ∧ Aside0 (Below w.heap.size w w'))
                case atStart => exact ⟨(x9_1), (([] : List (S39))), (0), (by first | rfl | (simp; done) | (simp [*]; done)), H', ⟨Nat.le_refl _⟩, ⟨by (with_reducible repeat (first | apply Kd.V_alloc | apply Kd.V_drewN | apply Kd.V_drew)); exact Kd.V_mono HO_0.out (fun _ hk => ⟨hk.1, ⟨hk.2, (by simp [Value.ownBlock])⟩⟩)⟩, ⟨by (with_reducible repeat (first | apply Kd.V_alloc | apply Kd.V_drewN | apply Kd.V_drew)); exact Kd.V_mono HO_9.out (fun _ hk => ⟨hk.1, ⟨hk.2, (by simp [Value.ownBlock])⟩⟩)⟩, ⟨by (with_reducible repeat (first | apply Kd.R_alloc | apply Kd.R_drewN | apply Kd.R_drew)); exact HO_10.out⟩, ⟨by first | exact Kd.R_nil _ _ _ _ _ | exact Kd.N_nil _ _ _ _ _ | exact Kd.V_nil _ _ _ _ _ | exact Kd.Q_nil _ _ _ _ _ | exact Kd.S_nil _ _ _ _ _⟩, ⟨by repeat (first | (with_reducible first | exact HB.out | apply below_alloc | apply pw_below_drewN | apply below_drew1) | exact HB.out)⟩⟩
                case round =>
                  clear H'
                  try clear c1
                  try clear c2
                  try clear p2
                  try clear q2
                  try clear hcv2
                  try clear c4
                  try clear c4b0
                  try clear c4b1
                  try clear c5
                  try clear c5b0
                  try clear c6
                  try clear c6b0
                  try clear c6b1
                  try clear p6
                  try clear c7
                  try clear c7b0
                  try clear c7b1
                  try clear c8
                  try clear q8
                  try clear c9
                  try clear c9b0
                  try clear c11
                  try clear c11b0
                  try clear c11b1
                  try clear c12
                  try clear c12b0
                  try clear c13
                  try clear c14
                  try clear c14b0
                  try clear c14b1
                  try clear c15
                  try clear c15b0
                  try clear c15b1
                  try clear c16
                  try clear c16b0
                  try clear c16b1
                  try clear c17
                  try clear c19
                  try clear c19b0
                  try clear c19b1
                  try clear c20
                  try clear c20b0
                  try clear c22
                  try clear q22
                  try clear hcv23
                  try clear c25
                  try clear q25
                  try clear p2
                  try clear q022
                  try clear q025
                  try clear q08
                  try clear q22
                  try clear q25
                  try clear q8
                  obtain ⟨x9_2, x14_2, x76_2, rfl, HA, HK2, HO_0, HO_9, HO_10, HO_14, HB⟩ := hrel
                  cases gk with
                  | zero => exact absurd HA.out (by simp [column_getTexts.l1])
                  | succ k2 =>
                    have H := HA.out
                    clear HA
                    simp only [column_getTexts.l1] at H
                    by_cases c27 : x76_2 < a1
                    · rw [if_pos c27] at H
                      have c27b0 : decide (x76_2 < a1) = true := decide_eq_true c27
                      clear c27
                      replace H := Option.bind_eq_some_iff.mp H
                      obtain ⟨⟨t455, t456, t457⟩, A280, H⟩ := H
                      replace H : (if t457 = 0 then (if t455 ≥ t431 then (some (([] : List (S39)), 21)) else (if 0 ≤ t455 then (if t455 < (x10_1.length : Int) then (if x14_2.length < 4398046511104 then (if 0 ≤ t456 then (if t456 ≤ (x9_2.length : Int) then (column_getTexts.l1 k2 l0 t431 (x9_2.drop (t456 : Int).toNat) x10_1 (x14_2 ++ [(⟨3, 0, rdOf ByteArray.empty x10_1 t455⟩ : S39)]) a1 (wrap64 (x76_2 + 1))) else (none)) else (none)) else (none)) else (none)) else (none))) else (some (([] : List (S39)), t457))) = some (r1, r2) := H
                      have A28 := Aside0.mk A280
                      clear A280
                      by_cases c29 : t457 = 0
                      · rw [if_pos c29] at H
                        have c29b0 : (t457 == 0) = true := beq_iff_eq.mpr c29
                        have c29b1 : (t457 != 0) = false := bne_eq_false_iff_eq.mpr c29
                        clear c29
                        by_cases c30 : t455 ≥ t431
                        · rw [if_pos c30] at H
                          have c30b0 : decide (t431 ≤ t455) = true := decide_eq_true c30
                          clear c30
                          simp only [Option.some.injEq, Prod.mk.injEq] at H
                          obtain ⟨rfl, rfl⟩ := H
                          obtain ⟨Ao31, co31, eo31⟩ := Kd.V_slice HO_9.out
                          subst eo31
                          go_wp2_with (first | ((with_reducible refine gate_callee (f := 126) rfl ?_); refine goesL_ (some 80) rfl rfl Try.func126 (by kernel_rfl) rfl #[.slice Ao31 x9_2.length co31] rfl (by (try simp only [List.map_toArray, List.map_cons, List.map_nil]); first | done | rfl | (simp only [List.length_drop, List.length_take]; rfl)) ?_; (with_reducible refine (varint_Get.calls k2 _ _ x9_2 t455 t456 t457 _ ?side1 ?side2 A28.out).mono ?_); (case side1 => repeat (first | exact (Kd.V_reads' HO_9.out).2.2 | (with_reducible refine Kd.C_alloc ?_ _) | (with_reducible refine Kd.C_drewN ?_ _) | (with_reducible refine Kd.C_drew ?_))); (case side2 => exact (Kd.V_reads' HO_9.out).2.1); rintro e w' ⟨rfl, ⟨nd, rfl⟩⟩; refine ⟨_, rfl, ?_⟩))
                          go_ret2
                          exact ⟨_, by first | rfl | (simp [errW_none, errW_some] <;> rfl) | (simp [*, errW_none, errW_some] <;> rfl), by first | exact Kd.R_nil _ _ _ _ _ | exact Kd.N_nil _ _ _ _ _ | exact Kd.V_nil _ _ _ _ _ | exact Kd.Q_nil _ _ _ _ _ | exact Kd.S_nil _ _ _ _ _, by repeat (first | (with_reducible first | exact HB.out | apply below_alloc | apply pw_below_drewN | apply below_drew1) | exact HB.out)⟩
                        · rw [if_neg c30] at H
                          have c30b0 : decide (t431 ≤ t455) = false := decide_eq_false c30
                          clear c30
                          by_cases c32 : 0 ≤ t455
                          · rw [if_pos c32] at H
                            have c32b0 : decide (0 ≤ t455) = true := decide_eq_true c32
                            clear c32
                            by_cases c33 : t455 < (x10_1.length : Int)
                            · rw [if_pos c33] at H
                              have c33b0 : decide (t455 < (x10_1.length : Int)) = true := decide_eq_true c33
                              clear c33
                              by_cases c34 : x14_2.length < 4398046511104
                              · rw [if_pos c34] at H
                                have LMc34 := Aside0.mk c34
                                clear c34
                                obtain ⟨y459, hy459⟩ : ∃ y_ : List (S39), y_ = (x14_2 ++ [(⟨3, 0, rdOf ByteArray.empty x10_1 t455⟩ : S39)]) := ⟨_, rfl⟩
                                replace H : (if 0 ≤ t456 then (if t456 ≤ (x9_2.length : Int) then (column_getTexts.l1 k2 l0 t431 (x9_2.drop (t456 : Int).toNat) x10_1 y459 a1 (wrap64 (x76_2 + 1))) else (none)) else (none)) = some (r1, r2) := by first | (rw [hy459]; with_reducible exact H) | (have H2_ := (Option.bind_some _ _).symm.trans H; rw [hy459]; with_reducible exact H2_) | (have H2_ := (Option.bind_some _ _).symm.trans H; with_reducible exact H2_) | with_reducible exact H | (rw [hy459]; exact H) | exact H
                                have Ny459 := Aside0.mk hy459
                                clear hy459
                                by_cases c35 : 0 ≤ t456
                                · rw [if_pos c35] at H
                                  have c35b0 := eq_true c35
                                  have c35b1 : decide (0 ≤ t456) = true := decide_eq_true c35
                                  clear c35
                                  by_cases c36 : t456 ≤ (x9_2.length : Int)
                                  · rw [if_pos c36] at H
                                    have c36b0 := eq_true c36
                                    have c36b1 : decide (t456 ≤ (x9_2.length : Int)) = true := decide_eq_true c36
                                    clear c36
                                    obtain ⟨y462, hy462⟩ : ∃ y_ : List Int, y_ = (x9_2.drop (t456 : Int).toNat) := ⟨_, rfl⟩
                                    replace H : (column_getTexts.l1 k2 l0 t431 y462 x10_1 y459 a1 (wrap64 (x76_2 + 1))) = some (r1, r2) := by first | (rw [hy462]; with_reducible exact H) | (have H2_ := (Option.bind_some _ _).symm.trans H; rw [hy462]; with_reducible exact H2_) | (have H2_ := (Option.bind_some _ _).symm.trans H; with_reducible exact H2_) | with_reducible exact H | (rw [hy462]; exact H) | exact H
                                    have Ny462 := Aside0.mk hy462
                                    clear hy462
                                    have H' := Aside0.mk H
                                    clear H
                                    obtain ⟨Ao37, co37, eo37⟩ := Kd.V_slice HO_9.out
                                    subst eo37
                                    try go_wp2_with (first | ((with_reducible refine gate_callee (f := 126) rfl ?_); refine goesL_ (some 80) rfl rfl Try.func126 (by kernel_rfl) rfl #[.slice Ao37 x9_2.length co37] rfl (by (try simp only [List.map_toArray, List.map_cons, List.map_nil]); first | done | rfl | (simp only [List.length_drop, List.length_take]; rfl)) ?_; (with_reducible refine (varint_Get.calls k2 _ _ x9_2 t455 t456 t457 _ ?side1 ?side2 A28.out).mono ?_); (case side1 => repeat (first | exact (Kd.V_reads' HO_9.out).2.2 | (with_reducible refine Kd.C_alloc ?_ _) | (with_reducible refine Kd.C_drewN ?_ _) | (with_reducible refine Kd.C_drew ?_))); (case side2 => exact (Kd.V_reads' HO_9.out).2.1); rintro e w' ⟨rfl, ⟨nd, rfl⟩⟩; refine ⟨_, rfl, ?_⟩))
                                    (try (rw [drewN_self wr]; generalize hq_ : World.drewN wr _ = wr; have n0_ : Aside0 (Kd.V (Kd.int .u8) 5 wr w.heap.size (fun k_ => (P0_ k_ ∨ w.heap.size ≤ k_) ∧ some k_ ≠ (u10 : Value).ownBlock ∧ some k_ ≠ (u14 : Value).ownBlock) (.slice A0 l0.length c0) l0) := ⟨by rw [← hq_]; exact (by (with_reducible repeat (first | apply Kd.V_alloc | apply Kd.V_drewN | apply Kd.V_drew)); exact HO_0.out)⟩; have n1_ : Aside0 (Kd.R Kd.string 9 wr w.heap.size (fun k_ => (w.heap.size ≤ k_)) u10 x10_1) := ⟨by rw [← hq_]; exact (by (with_reducible repeat (first | apply Kd.R_alloc | apply Kd.R_drewN | apply Kd.R_drew)); exact HO_10.out)⟩; have n2_ : Aside0 (Kd.R k39 39 wr w.heap.size (fun k_ => (w.heap.size ≤ k_)) u14 x14_2) := ⟨by rw [← hq_]; exact (by (with_reducible repeat (first | apply Kd.R_alloc | apply Kd.R_drewN | apply Kd.R_drew)); exact HO_14.out)⟩; have n3_ : Aside0 (Kd.V (Kd.int .u8) 5 wr w.heap.size (fun k_ => (P0_ k_ ∨ w.heap.size ≤ k_) ∧ some k_ ≠ (u10 : Value).ownBlock ∧ some k_ ≠ (u14 : Value).ownBlock) (.slice Ao37 x9_2.length co37) x9_2) := ⟨by rw [← hq_]; exact (by (with_reducible repeat (first | apply Kd.V_alloc | apply Kd.V_drewN | apply Kd.V_drew)); exact HO_9.out)⟩; have n4_ : Aside0 (Below w.heap.size w wr) := ⟨by rw [← hq_]; exact (by repeat (first | (with_reducible first | exact HB.out | apply below_alloc | apply pw_below_drewN | apply below_drew1) | exact HB.out))⟩; clear HO_0 HO_10 HO_14 HO_9 HB hq_; have HO_0 := n0_; have HO_10 := n1_; have HO_14 := n2_; have HO_9 := n3_; have HB := n4_; clear n0_ n1_ n2_ n3_ n4_))
                                    have n0_ := Aside0.mk (Kd.V_drew HO_0.out)
                                    have n1_ := Aside0.mk (Kd.V_drew HO_9.out)
                                    have n2_ := Aside0.mk (Kd.R_drew HO_10.out)
                                    have n3_ := Aside0.mk (Kd.R_drew HO_14.out)
                                    have n4_ := Aside0.mk (below_drew1 HB.out)
                                    clear HO_0
                                    clear HO_9
                                    clear HO_10
                                    clear HO_14
                                    clear HB
                                    have HO_0 := n0_
                                    have HO_9 := n1_
                                    have HO_10 := n2_
                                    have HO_14 := n3_
                                    have HB := n4_
                                    clear n0_ n1_ n2_ n3_ n4_
                                    obtain ⟨Ao39, co39, eo39⟩ := Kd.R_slice HO_10.out
                                    (first | subst eo39 | (injection eo39 with f1_ f2_ f3_; have f4_ := f1_.symm; have f5_ := f3_.symm; clear f1_ f2_ f3_; subst f4_; subst f5_))
                                    have p458 : 0 ≤ (t455 : Int) := of_decide_eq_true (by first | (with_reducible assumption) | assumption)
                                    have q458 : t455 < (x10_1.length : Int) := of_decide_eq_true (by first | (with_reducible assumption) | assumption)
                                    obtain ⟨ad458, e458, hx458_0⟩ := Kd.at_string (Kd.R_reads' HO_10.out).2.2 t455 p458 q458
                                    cases e458
                                    replace p458 := eq_true p458
                                    replace q458 := eq_true q458
                                    have q40 : (t456 : Int) ≤ ((x9_2.length : Int) : Int) := of_decide_eq_true (by first | (with_reducible assumption) | assumption)
                                    obtain ⟨i040, hi040, _, hsz40, _⟩ := info_parts info5
                                    have hroom40 : x9_2.length ≤ co37 := (Kd.V_reads' HO_9.out).2.1
                                    have hC40 : Kd.F (Kd.int .u8) _ _ Ao37 x9_2.length x9_2 := (Kd.V_at (base := w.heap.size) HO_9.out).2.2
                                    have q040 : (0 : Int) ≤ (t456 : Int) := of_decide_eq_true (by first | (with_reducible assumption) | assumption)
                                    have hcut40 := Go.Proofs.YtlmcefhpnfoahaaW.PrintWords.cut_from (P := Try.prog) 22 5 .i64 Try.underlying22 hi040 1 hsz40 Ao37 x9_2.length co37 t456 q040 q40
                                    have hr40 := Kd.F_cut (m := (t456 : Int).toNat) (c := co37) hC40 (by omega) hroom40
                                    obtain ⟨A40, hA40⟩ : ∃ A1, A1 = (if co37 = (t456 : Int).toNat then Ao37 else (Ao37 : Option Addr).map (·.add ((t456 : Int).toNat * 1))) := ⟨_, rfl⟩
                                    obtain ⟨c40, hc40⟩ : ∃ c1, c1 = co37 - (t456 : Int).toNat := ⟨_, rfl⟩
                                    have hy40 : y462.length = x9_2.length - (t456 : Int).toNat := (by rw [Ny462.out, List.length_drop] <;> omega)
                                    rw [show (x9_2).drop (t456 : Int).toNat = y462 from Ny462.out.symm] at hr40
                                    replace hr40 : Kd.F (Kd.int .u8) _ _ A40 y462.length y462 := (by rw [hA40]; exact hr40)
                                    rw [← hy40, ← hA40, ← hc40] at hcut40
                                    have HO466 := Aside0.mk (show Kd.V (Kd.int .u8) 5 _ w.heap.size _ (.slice A40 y462.length c40) y462 from Kd.V_mk (by rw [hy40, hc40]; exact Nat.sub_le_sub_right hroom40 _) hr40)
                                    have HC466 := Aside0.mk (show y462.length ≤ c40 from by rw [hy40, hc40]; exact Nat.sub_le_sub_right hroom40 _)
                                    clear hr40 hC40 hroom40 hi040 hsz40 hc40
                                    have KY40 := Aside0.mk hy40
                                    have KA40 := Aside0.mk hA40
                                    clear hy40 hA40
                                    replace q40 := eq_true q40
                                    refine start_ (n := 13) (S := fun w' => w'.cell? (ad458.add (t455).toNat) = some (.string (rdOf ByteArray.empty x10_1 t455))) (ds := [6, 7]) #[false, false, false, false, false, false, false, false, false, false, false, false, false] (by kernel_rfl) rfl rfl (hx458_0) (fun hHeld => ?_); refine with_tabW column_getTexts.tab26 column_getTexts.bits26 (fun HT_ HW_ => ?_)
                                    generalize wr.drew = w38 at HO_0 HO_9 HO_10 HO_14 HB HO466 hx458_0 hHeld ⊢
                                    refine pure_ (i := 0) (N := some 92) (v := ?_) (a' := ?_) #[true, false, false, false, false, false, false, false, false, false, false, false, false] rfl rfl (any_of HT_.out (by kernel_rfl)) (fun _ _ _ h => h) (Or.inl ⟨by rfl, ?_⟩) ?_ ?_
                                    rotate_left
                                    · intro w'
                                      go_simp
                                      with_reducible rfl
                                    rotate_left
                                    · simp only [Act.put, List.setIfInBounds_toArray, List.set_cons_zero, List.set_cons_succ, i64_w, i32_w]
                                      rfl
                                    refine pure_ (i := 1) (N := some 93) (v := ?_) (a' := ?_) #[true, true, false, false, false, false, false, false, false, false, false, false, false] rfl rfl (any_of HT_.out (by kernel_rfl)) (fun _ _ _ h => h) (Or.inl ⟨by rfl, ?_⟩) ?_ ?_
                                    rotate_left
                                    · intro w'
                                      go_simp
                                      with_reducible rfl
                                    rotate_left
                                    · simp only [Act.put, List.setIfInBounds_toArray, List.set_cons_zero, List.set_cons_succ, i64_w, i32_w]
                                      rfl
                                    refine pure_ (i := 2) (N := some 94) (v := ?_) (a' := ?_) #[true, true, true, false, false, false, false, false, false, false, false, false, false] rfl rfl (any_of HT_.out (by kernel_rfl)) (fun _ _ _ h => h) (Or.inl ⟨by rfl, ?_⟩) ?_ ?_
                                    rotate_left
                                    · intro w'
                                      go_simp
                                      with_reducible rfl
                                    rotate_left
                                    · simp only [Act.put, List.setIfInBounds_toArray, List.set_cons_zero, List.set_cons_succ, i64_w, i32_w]
                                      rfl
                                    refine pure_ (i := 3) (N := some 95) (v := ?_) (a' := ?_) #[true, true, true, true, false, false, false, false, false, false, false, false, false] rfl rfl (any_of HT_.out (by kernel_rfl)) (fun _ _ _ h => h) (Or.inl ⟨by rfl, ?_⟩) ?_ ?_
                                    rotate_left
                                    · intro w'
                                      go_simp
                                      with_reducible rfl
                                    rotate_left
                                    · simp only [Act.put, List.setIfInBounds_toArray, List.set_cons_zero, List.set_cons_succ, i64_w, i32_w]
                                      rfl
                                    refine pure_ (i := 8) (N := some 100) (v := ?_) (a' := ?_) #[true, true, true, true, false, false, false, false, true, false, false, false, false] rfl rfl (any_of HT_.out (by kernel_rfl)) (fun _ _ _ h => h) (Or.inl ⟨by rfl, ?_⟩) ?_ ?_
                                    rotate_left
                                    · intro w'
                                      go_simp
                                      with_reducible rfl
                                    rotate_left
                                    · simp only [Act.put, List.setIfInBounds_toArray, List.set_cons_zero, List.set_cons_succ, i64_w, i32_w]
                                      rfl
                                    refine pure_ (i := 9) (N := some 101) (v := ?_) (a' := ?_) #[true, true, true, true, false, false, false, false, true, true, false, false, false] rfl rfl (any_of HT_.out (by kernel_rfl)) (fun _ _ _ h => h) (Or.inl ⟨by rfl, ?_⟩) ?_ ?_
                                    rotate_left
                                    · intro w'
                                      go_simp
                                      with_reducible rfl
                                    rotate_left
                                    · simp only [Act.put, List.setIfInBounds_toArray, List.set_cons_zero, List.set_cons_succ, i64_w, i32_w]
                                      rfl
                                    refine pure_ (i := 10) (N := some 102) (v := ?_) (a' := ?_) #[true, true, true, true, false, false, false, false, true, true, true, false, false] rfl rfl (any_of HT_.out (by kernel_rfl)) (fun _ _ _ h => h) (Or.inl ⟨by rfl, ?_⟩) ?_ ?_
                                    rotate_left
                                    · intro w'
                                      go_simp
                                      with_reducible rfl
                                    rotate_left
                                    · simp only [Act.put, List.setIfInBounds_toArray, List.set_cons_zero, List.set_cons_succ, i64_w, i32_w]
                                      rfl
                                    refine take_ (i := 4) (N := some 96) (v := ?_) (a' := ?_) #[true, true, true, true, true, false, false, false, true, true, true, false, false] rfl rfl (take_ofW HT_.out HW_.out (by kernel_rfl)) (fun _ _ _ h => h) (Or.inl ⟨by rfl, ?_⟩) hHeld ?_ ?_
                                    rotate_left
                                    · intro w' s0
                                      go_simp
                                      with_reducible rfl
                                    rotate_left
                                    · simp only [Act.put, List.setIfInBounds_toArray, List.set_cons_zero, List.set_cons_succ, i64_w, i32_w]
                                      rfl
                                    refine pure_ (i := 5) (N := some 97) (v := ?_) (a' := ?_) #[true, true, true, true, true, true, false, false, true, true, true, false, false] rfl rfl (any_of HT_.out (by kernel_rfl)) (fun _ _ _ h => h) (Or.inl ⟨by rfl, ?_⟩) ?_ ?_
                                    rotate_left
                                    · intro w'
                                      go_simp
                                      with_reducible rfl
                                    rotate_left
                                    · simp only [Act.put, List.setIfInBounds_toArray, List.set_cons_zero, List.set_cons_succ, i64_w, i32_w]
                                      rfl
                                    refine last_ (i := 6) (N := some 98) #[true, true, true, true, true, true, true, false, true, true, true, false, false] rfl rfl (one_of HT_.out (by kernel_rfl)) (by decide) (fun K hK => ?_)
                                    refine value_ (w1 := ?_) (v := ?_) (by rfl) rfl ?_ ?_
                                    rotate_left 2
                                    · go_simp
                                      constructor
                                      · rfl
                                      · rfl
                                    refine hK.out _ _ ?_
                                    clear hK K
                                    refine norm_ (a' := ?_) ?_ ?_
                                    rotate_left
                                    · show Act.put _ (some 98) _ = _
                                      simp only [Act.put, List.setIfInBounds_toArray, List.set_cons_zero, List.set_cons_succ, i64_w, i32_w]
                                      rfl
                                    refine last_ (i := 7) (N := some 99) #[true, true, true, true, true, true, true, true, true, true, true, false, false] rfl rfl (one_of HT_.out (by kernel_rfl)) (by decide) (fun K hK => ?_)
                                    refine Kd.R_append_step k39 (w0 := w) w.heap.size (by rfl) (.tmp 92) (.tmp 98) 23 39 (.agg #[(.int .u8 0), (.int .i64 0), (.string ⟨#[]⟩)]) 32 rfl Try.underlying23 info39 rfl (by decide) (by omega) u14 x14_2 (⟨3, 0, rdOf ByteArray.empty x10_1 t455⟩ : S39) [.int .u8 3, .int .i64 0, .string (rdOf ByteArray.empty x10_1 t455)] (fun k_ => (w.heap.size ≤ k_)) (fun _ => False) rfl rfl ?aP (fun _ hk => hk.elim) ?aF ?aO ?aB ?aS ?aL ?_
                                    (case aP => exact k39_mkM _ _ _ (⟨3, 0, rdOf ByteArray.empty x10_1 t455⟩ : S39))
                                    (case aB => exact (by repeat (first | (with_reducible first | exact HB.out | apply below_alloc | apply pw_below_drewN | apply below_drew1) | exact HB.out)))
                                    (case aF => exact (fun k_ hk => (Nat.le_trans (below_size (by repeat (first | (with_reducible first | exact HB.out | apply below_alloc | apply pw_below_drewN | apply below_drew1) | exact HB.out))) hk)))
                                    (case aO => exact (by (with_reducible repeat (first | apply Kd.R_alloc | apply Kd.R_drewN | apply Kd.R_drew)); exact HO_14.out))
                                    (case aS => exact (below_size (by repeat (first | (with_reducible first | exact HB.out | apply below_alloc | apply pw_below_drewN | apply below_drew1) | exact HB.out))))
                                    (case aL => have := LMc34.out; omega)
                                    intro v460 w41 ho hb hg hat
                                    rw [← Ny459.out] at ho
                                    have n0_ := Aside0.mk (Kd.V_afterv (ok := (fun k_ => (P0_ k_ ∨ w.heap.size ≤ k_) ∧ some k_ ≠ (.slice (some ad458) x10_1.length co39 : Value).ownBlock)) (by (with_reducible repeat (first | apply Kd.V_alloc | apply Kd.V_drewN | apply Kd.V_drew)); exact Kd.V_mono HO_0.out (fun _ hk => ⟨⟨hk.1, hk.2.1⟩, hk.2.2⟩)) hg hat)
                                    have n1_ := Aside0.mk (Kd.V_afterv (ok := (fun k_ => (P0_ k_ ∨ w.heap.size ≤ k_) ∧ some k_ ≠ (.slice (some ad458) x10_1.length co39 : Value).ownBlock)) (by (with_reducible repeat (first | apply Kd.V_alloc | apply Kd.V_drewN | apply Kd.V_drew)); exact Kd.V_mono HO_9.out (fun _ hk => ⟨⟨hk.1, hk.2.1⟩, hk.2.2⟩)) hg hat)
                                    have n2_ := Aside0.mk (Kd.R_over' (by (with_reducible repeat (first | apply Kd.R_alloc | apply Kd.R_drewN | apply Kd.R_drew)); exact HO_10.out) (Kd.R_typed (by (with_reducible repeat (first | apply Kd.R_alloc | apply Kd.R_drewN | apply Kd.R_drew)); exact HO_14.out)) (by decide) hg)
                                    have n3_ := Aside0.mk (Kd.V_afterv (ok := (fun k_ => (P0_ k_ ∨ w.heap.size ≤ k_) ∧ some k_ ≠ (.slice (some ad458) x10_1.length co39 : Value).ownBlock)) (by (with_reducible repeat (first | apply Kd.V_alloc | apply Kd.V_drewN | apply Kd.V_drew)); exact Kd.V_mono HO466.out (fun _ hk => ⟨⟨hk.1, hk.2.1⟩, hk.2.2⟩)) hg hat)
                                    have n4_ := Aside0.mk (hb)
                                    have n5_ := Aside0.mk (ho)
                                    clear HO_0
                                    clear HO_9
                                    clear HO_10
                                    clear HO466
                                    clear HB
                                    clear HO_14
                                    have HO_0 := n0_
                                    have HO_9 := n1_
                                    have HO_10 := n2_
                                    have HO466 := n3_
                                    have HB := n4_
                                    have HO461 := n5_
                                    clear n0_ n1_ n2_ n3_ n4_ n5_
                                    clear ho hb hg hat
                                    refine hK.out _ _ ?_
                                    clear hK K
                                    refine norm_ (a' := ?_) ?_ ?_
                                    rotate_left
                                    · show Act.put _ (some 99) _ = _
                                      simp only [Act.put, List.setIfInBounds_toArray, List.set_cons_zero, List.set_cons_succ, i64_w, i32_w]
                                      rfl
                                    refine pure_ (i := 11) (N := some 14) (v := ?_) (a' := ?_) #[true, true, true, true, true, true, true, true, true, true, true, true, false] rfl rfl (any_of HT_.out (by kernel_rfl)) (fun _ _ _ h => h) (Or.inl ⟨by rfl, ?_⟩) ?_ ?_
                                    rotate_left
                                    · intro w'
                                      go_simp
                                      with_reducible rfl
                                    rotate_left
                                    · simp only [Act.put, List.setIfInBounds_toArray, List.set_cons_zero, List.set_cons_succ, i64_w, i32_w]
                                      rfl
                                    refine pure_ (i := 12) (N := some 9) (v := ?_) (a' := ?_) #[true, true, true, true, true, true, true, true, true, true, true, true, true] rfl rfl (any_of HT_.out (by kernel_rfl)) (fun _ _ _ h => h) (Or.inl ⟨by rfl, ?_⟩) ?_ ?_
                                    rotate_left
                                    · intro w'
                                      go_simp
                                      with_reducible rfl
                                    rotate_left
                                    · simp only [Act.put, List.setIfInBounds_toArray, List.set_cons_zero, List.set_cons_succ, i64_w, i32_w]
                                      rfl
                                    refine done_ (done_of HT_.out (by kernel_rfl)) ?_
                                    try go_wp2
                                    go_roundg k2
                                    case measure => have := HK1.out; have := HK2.out; omega
                                    case rel => exact ⟨(y462), (y459), (wrap64 (x76_2 + 1)), (by first | rfl | (simp; done) | (simp [*]; done)), H', ⟨by have := HK1.out; have := HK2.out; omega⟩, ⟨by (with_reducible repeat (first | apply Kd.V_alloc | apply Kd.V_drewN | apply Kd.V_drew)); exact Kd.V_mono HO_0.out (fun _ hk => ⟨hk.1.1, ⟨hk.1.2, hk.2⟩⟩)⟩, ⟨by (with_reducible repeat (first | apply Kd.V_alloc | apply Kd.V_drewN | apply Kd.V_drew)); exact Kd.V_mono HO466.out (fun _ hk => ⟨hk.1.1, ⟨hk.1.2, hk.2⟩⟩)⟩, ⟨by (with_reducible repeat (first | apply Kd.R_alloc | apply Kd.R_drewN | apply Kd.R_drew)); exact HO_10.out⟩, ⟨by (with_reducible repeat (first | apply Kd.R_alloc | apply Kd.R_drewN | apply Kd.R_drew)); exact HO461.out⟩, ⟨by repeat (first | (with_reducible first | exact HB.out | apply below_alloc | apply pw_below_drewN | apply below_drew1) | exact HB.out)⟩⟩
                                  · rw [if_neg c36] at H
                                    exact absurd H (by simp)
                                · rw [if_neg c35] at H
                                  exact absurd H (by simp)
                              · rw [if_neg c34] at H
                                exact absurd H (by simp)
                            · rw [if_neg c33] at H
                              exact absurd H (by simp)
                          · rw [if_neg c32] at H
                            exact absurd H (by simp)
                      · rw [if_neg c29] at H
                        have c29b0 : (t457 == 0) = false := beq_eq_false_iff_ne.mpr c29
                        have c29b1 : (t457 != 0) = true := bne_iff_ne.mpr c29
                        simp only [Option.some.injEq, Prod.mk.injEq] at H
                        obtain ⟨rfl, rfl⟩ := H
                        obtain ⟨Ao42, co42, eo42⟩ := Kd.V_slice HO_9.out
                        subst eo42
                        go_wp2_with (first | ((with_reducible refine gate_callee (f := 126) rfl ?_); refine goesL_ (some 80) rfl rfl Try.func126 (by kernel_rfl) rfl #[.slice Ao42 x9_2.length co42] rfl (by (try simp only [List.map_toArray, List.map_cons, List.map_nil]); first | done | rfl | (simp only [List.length_drop, List.length_take]; rfl)) ?_; (with_reducible refine (varint_Get.calls k2 _ _ x9_2 t455 t456 t457 _ ?side1 ?side2 A28.out).mono ?_); (case side1 => repeat (first | exact (Kd.V_reads' HO_9.out).2.2 | (with_reducible refine Kd.C_alloc ?_ _) | (with_reducible refine Kd.C_drewN ?_ _) | (with_reducible refine Kd.C_drew ?_))); (case side2 => exact (Kd.V_reads' HO_9.out).2.1); rintro e w' ⟨rfl, ⟨nd, rfl⟩⟩; refine ⟨_, rfl, ?_⟩))
                        go_ret2
                        exact ⟨_, by first | rfl | (simp [errW_none, errW_some] <;> rfl) | (simp [*, errW_none, errW_some] <;> rfl), by first | exact Kd.R_nil _ _ _ _ _ | exact Kd.N_nil _ _ _ _ _ | exact Kd.V_nil _ _ _ _ _ | exact Kd.Q_nil _ _ _ _ _ | exact Kd.S_nil _ _ _ _ _, by repeat (first | (with_reducible first | exact HB.out | apply below_alloc | apply pw_below_drewN | apply below_drew1) | exact HB.out)⟩
                    · rw [if_neg c27] at H
                      have c27b0 : decide (x76_2 < a1) = false := decide_eq_false c27
                      clear c27
                      replace H := Option.bind_eq_some_iff.mp H
                      obtain ⟨t467, A430, H⟩ := H
                      replace H : ((bytes_Equal.f t467 l0).bind fun t470 => (if t470 = true then (some (x14_2, 0)) else (some (([] : List (S39)), 21)))) = some (r1, r2) := H
                      have A43 := Aside0.mk A430
                      clear A430
                      replace H := Option.bind_eq_some_iff.mp H
                      obtain ⟨t470, A440, H⟩ := H
                      replace H : (if t470 = true then (some (x14_2, 0)) else (some (([] : List (S39)), 21))) = some (r1, r2) := H
                      have A44 := Aside0.mk A440
                      clear A440
                      by_cases c45 : t470 = true
                      · subst c45
                        have H1 : (some (x14_2, 0)) = some (r1, r2) := by rw [if_pos rfl] at H; exact H
                        clear H
                        have H := H1
                        clear H1
                        simp only [Option.some.injEq, Prod.mk.injEq] at H
                        obtain ⟨rfl, rfl⟩ := H
                        obtain ⟨Ao46, co46, eo46⟩ := Kd.R_slice HO_14.out
                        subst eo46
                        go_wp2_with (first | ((with_reducible refine gate_callee (f := 137) rfl ?_); refine goesL_ (some 105) rfl rfl Try.func137 (by kernel_rfl) rfl #[.slice Ao46 x14_2.length co46] rfl (by (try simp only [List.map_toArray, List.map_cons, List.map_nil]); first | done | rfl | (simp only [List.length_drop, List.length_take]; rfl)) ?_; (with_reducible refine (column_putTexts.calls _ _ x14_2 t467 _ ?side1 ?side2 A43.out).mono ?_); (case side1 => repeat (first | exact (Kd.R_reads' HO_14.out).2.2 | (with_reducible refine Kd.C_alloc ?_ _) | (with_reducible refine Kd.C_drewN ?_ _) | (with_reducible refine Kd.C_drew ?_))); (case side2 => exact (Kd.R_reads' HO_14.out).2.1); rintro e w47 ⟨v468, rfl, ho0, hb⟩; refine ⟨_, rfl, ?_⟩; have n0_ := Aside0.mk (Kd.V_elder' (by (with_reducible repeat (first | apply Kd.V_alloc | apply Kd.V_drewN | apply Kd.V_drew)); exact HO_0.out) (Kd.R_base ho0) hb); have n1_ := Aside0.mk (Kd.V_elder' (by (with_reducible repeat (first | apply Kd.V_alloc | apply Kd.V_drewN | apply Kd.V_drew)); exact HO_9.out) (Kd.R_base ho0) hb); have n2_ := Aside0.mk (Kd.R_below (by (with_reducible repeat (first | apply Kd.R_alloc | apply Kd.R_drewN | apply Kd.R_drew)); exact HO_10.out) hb); have n3_ := Aside0.mk (Kd.R_below (by (with_reducible repeat (first | apply Kd.R_alloc | apply Kd.R_drewN | apply Kd.R_drew)); exact HO_14.out) hb); have n4_ := Aside0.mk (Kd.R_lower (Kd.R_newM (M := fun k_ => (w.heap.size ≤ k_)) ho0 (below_size (by repeat (first | (with_reducible first | exact HB.out | apply below_alloc | apply pw_below_drewN | apply below_drew1) | exact HB.out))) (fun k_ h_ => h_)) (below_size (by repeat (first | (with_reducible first | exact HB.out | apply below_alloc | apply pw_below_drewN | apply below_drew1) | exact HB.out)))); have n5_ := Aside0.mk (below_step (by repeat (first | (with_reducible first | exact HB.out | apply below_alloc | apply pw_below_drewN | apply below_drew1) | exact HB.out)) hb); clear HO_0; clear HO_9; clear HO_10; clear HO_14; clear HB; have HO_0 := n0_; have HO_9 := n1_; have HO_10 := n2_; have HO_14 := n3_; have HO469 := n4_; have HB := n5_; clear n0_ n1_ n2_ n3_ n4_ n5_; (try clear hb); (try clear hb2); (try clear hk); (try clear hi); (try clear ho0); obtain ⟨Ao48, co48, eo48⟩ := Kd.R_slice HO469.out; subst eo48) | ((with_reducible refine gate_callee (f := 143) rfl ?_); refine goesL_ (some 107) rfl rfl Try.func143 (by kernel_rfl) rfl #[.slice Ao48 t467.length co48, .slice A0 l0.length c0] rfl (by (try simp only [List.map_toArray, List.map_cons, List.map_nil]); first | done | rfl | (simp only [List.length_drop, List.length_take]; rfl)) ?_; (with_reducible refine (bytes_Equal.calls _ _ t467 _ _ l0 true _ ?side1 ?side2 ?side3 ?side4 A44.out).mono ?_); (case side1 => repeat (first | exact (Kd.R_reads' HO469.out).2.2 | (with_reducible refine Kd.C_alloc ?_ _) | (with_reducible refine Kd.C_drewN ?_ _) | (with_reducible refine Kd.C_drew ?_))); (case side2 => exact (Kd.R_reads' HO469.out).2.1); (case side3 => repeat (first | exact (Kd.V_reads' HO_0.out).2.2 | (with_reducible refine Kd.C_alloc ?_ _) | (with_reducible refine Kd.C_drewN ?_ _) | (with_reducible refine Kd.C_drew ?_))); (case side4 => exact (Kd.V_reads' HO_0.out).2.1); rintro e w' ⟨rfl, ⟨nd, rfl⟩⟩; refine ⟨_, rfl, ?_⟩))
                        go_ret2
                        exact ⟨_, by first | rfl | (simp [errW_none, errW_some] <;> rfl) | (simp [*, errW_none, errW_some] <;> rfl), by (with_reducible repeat (first | apply Kd.R_alloc | apply Kd.R_drewN | apply Kd.R_drew)); exact HO_14.out, by repeat (first | (with_reducible first | exact HB.out | apply below_alloc | apply pw_below_drewN | apply below_drew1) | exact HB.out)⟩
                      · replace c45 := Bool.eq_false_iff.mpr c45
                        subst c45
                        have H1 : (some (([] : List (S39)), 21)) = some (r1, r2) := by rw [if_neg (show ¬ (false = true) by decide)] at H; exact H
                        clear H
                        have H := H1
                        clear H1
                        simp only [Option.some.injEq, Prod.mk.injEq] at H
                        obtain ⟨rfl, rfl⟩ := H
                        obtain ⟨Ao49, co49, eo49⟩ := Kd.R_slice HO_14.out
                        subst eo49
                        go_wp2_with (first | ((with_reducible refine gate_callee (f := 137) rfl ?_); refine goesL_ (some 105) rfl rfl Try.func137 (by kernel_rfl) rfl #[.slice Ao49 x14_2.length co49] rfl (by (try simp only [List.map_toArray, List.map_cons, List.map_nil]); first | done | rfl | (simp only [List.length_drop, List.length_take]; rfl)) ?_; (with_reducible refine (column_putTexts.calls _ _ x14_2 t467 _ ?side1 ?side2 A43.out).mono ?_); (case side1 => repeat (first | exact (Kd.R_reads' HO_14.out).2.2 | (with_reducible refine Kd.C_alloc ?_ _) | (with_reducible refine Kd.C_drewN ?_ _) | (with_reducible refine Kd.C_drew ?_))); (case side2 => exact (Kd.R_reads' HO_14.out).2.1); rintro e w50 ⟨v468, rfl, ho0, hb⟩; refine ⟨_, rfl, ?_⟩; have n0_ := Aside0.mk (Kd.V_elder' (by (with_reducible repeat (first | apply Kd.V_alloc | apply Kd.V_drewN | apply Kd.V_drew)); exact HO_0.out) (Kd.R_base ho0) hb); have n1_ := Aside0.mk (Kd.V_elder' (by (with_reducible repeat (first | apply Kd.V_alloc | apply Kd.V_drewN | apply Kd.V_drew)); exact HO_9.out) (Kd.R_base ho0) hb); have n2_ := Aside0.mk (Kd.R_below (by (with_reducible repeat (first | apply Kd.R_alloc | apply Kd.R_drewN | apply Kd.R_drew)); exact HO_10.out) hb); have n3_ := Aside0.mk (Kd.R_below (by (with_reducible repeat (first | apply Kd.R_alloc | apply Kd.R_drewN | apply Kd.R_drew)); exact HO_14.out) hb); have n4_ := Aside0.mk (Kd.R_lower (Kd.R_newM (M := fun k_ => (w.heap.size ≤ k_)) ho0 (below_size (by repeat (first | (with_reducible first | exact HB.out | apply below_alloc | apply pw_below_drewN | apply below_drew1) | exact HB.out))) (fun k_ h_ => h_)) (below_size (by repeat (first | (with_reducible first | exact HB.out | apply below_alloc | apply pw_below_drewN | apply below_drew1) | exact HB.out)))); have n5_ := Aside0.mk (below_step (by repeat (first | (with_reducible first | exact HB.out | apply below_alloc | apply pw_below_drewN | apply below_drew1) | exact HB.out)) hb); clear HO_0; clear HO_9; clear HO_10; clear HO_14; clear HB; have HO_0 := n0_; have HO_9 := n1_; have HO_10 := n2_; have HO_14 := n3_; have HO469 := n4_; have HB := n5_; clear n0_ n1_ n2_ n3_ n4_ n5_; (try clear hb); (try clear hb2); (try clear hk); (try clear hi); (try clear ho0); obtain ⟨Ao51, co51, eo51⟩ := Kd.R_slice HO469.out; subst eo51) | ((with_reducible refine gate_callee (f := 143) rfl ?_); refine goesL_ (some 107) rfl rfl Try.func143 (by kernel_rfl) rfl #[.slice Ao51 t467.length co51, .slice A0 l0.length c0] rfl (by (try simp only [List.map_toArray, List.map_cons, List.map_nil]); first | done | rfl | (simp only [List.length_drop, List.length_take]; rfl)) ?_; (with_reducible refine (bytes_Equal.calls _ _ t467 _ _ l0 false _ ?side1 ?side2 ?side3 ?side4 A44.out).mono ?_); (case side1 => repeat (first | exact (Kd.R_reads' HO469.out).2.2 | (with_reducible refine Kd.C_alloc ?_ _) | (with_reducible refine Kd.C_drewN ?_ _) | (with_reducible refine Kd.C_drew ?_))); (case side2 => exact (Kd.R_reads' HO469.out).2.1); (case side3 => repeat (first | exact (Kd.V_reads' HO_0.out).2.2 | (with_reducible refine Kd.C_alloc ?_ _) | (with_reducible refine Kd.C_drewN ?_ _) | (with_reducible refine Kd.C_drew ?_))); (case side4 => exact (Kd.V_reads' HO_0.out).2.1); rintro e w' ⟨rfl, ⟨nd, rfl⟩⟩; refine ⟨_, rfl, ?_⟩))
                        go_ret2
                        exact ⟨_, by first | rfl | (simp [errW_none, errW_some] <;> rfl) | (simp [*, errW_none, errW_some] <;> rfl), by first | exact Kd.R_nil _ _ _ _ _ | exact Kd.N_nil _ _ _ _ _ | exact Kd.V_nil _ _ _ _ _ | exact Kd.Q_nil _ _ _ _ _ | exact Kd.S_nil _ _ _ _ _, by repeat (first | (with_reducible first | exact HB.out | apply below_alloc | apply pw_below_drewN | apply below_drew1) | exact HB.out)⟩
        · rw [if_neg c7] at H
          exact absurd H (by simp)
      · rw [if_neg c6] at H
        exact absurd H (by simp)
  · rw [if_neg c4] at H
    have c4b0 : (t433 == 0) = false := beq_eq_false_iff_ne.mpr c4
    have c4b1 : (t433 != 0) = true := bne_iff_ne.mpr c4
    simp only [Option.some.injEq, Prod.mk.injEq] at H
    obtain ⟨rfl, rfl⟩ := H
    go_enter Try.func138, Try.ntmps138
    go_wp2_with (first | ((with_reducible refine gate_callee (f := 126) rfl ?_); refine goesL_ (some 20) rfl rfl Try.func126 (by kernel_rfl) rfl #[.slice A0 l0.length c0] rfl (by (try simp only [List.map_toArray, List.map_cons, List.map_nil]); first | done | rfl | (simp only [List.length_drop, List.length_take]; rfl)) ?_; (with_reducible refine (varint_Get.calls k _ _ l0 t431 t432 t433 _ ?side1 ?side2 A3.out).mono ?_); (case side1 => repeat (first | exact (Kd.V_reads' HO0.out).2.2 | (with_reducible refine Kd.C_alloc ?_ _) | (with_reducible refine Kd.C_drewN ?_ _) | (with_reducible refine Kd.C_drew ?_))); (case side2 => exact (Kd.V_reads' HO0.out).2.1); rintro e w' ⟨rfl, ⟨nd, rfl⟩⟩; refine ⟨_, rfl, ?_⟩))
    go_ret2
    exact ⟨_, by first | rfl | (simp [errW_none, errW_some] <;> rfl) | (simp [*, errW_none, errW_some] <;> rfl), by first | exact Kd.R_nil _ _ _ _ _ | exact Kd.N_nil _ _ _ _ _ | exact Kd.V_nil _ _ _ _ _ | exact Kd.Q_nil _ _ _ _ _ | exact Kd.S_nil _ _ _ _ _, by repeat (first | (with_reducible first | exact HB.out | apply below_alloc | apply pw_below_drewN | apply below_drew1) | exact HB.out)⟩

end Go.Proofs.Ytlmcefhpnfoahaa.P
end

section
namespace Go.Proofs.Ytlmcefhpnfoahaa.P
open Go.RowKit Go.Proofs.YtlmcefhpnfoahaaW.PrintWords Go.Proofs.YtlmcefhpnfoahaaW.PrintLast Go.Proofs.YtlmcefhpnfoahaaW.PrintMore
set_option linter.unusedVariables false
set_option linter.unusedSimpArgs false

theorem strOf_inj (a b : List Int) (ha : ∀ x ∈ a, isByte x = true) (hb : ∀ x ∈ b, isByte x = true) (h : (strOfNums a).toList = (strOfNums b).toList) : a = b := by
  have e2 : strOfNums a = strOfNums b := by
    rw [ByteArray.toList_eq, ByteArray.toList_eq] at h
    exact WideShapes.bytes_inj h
  have e3 := congrArg bytesOf e2
  rwa [bytesOf_strOfNums _ ha, bytesOf_strOfNums _ hb] at e3
theorem strOf_eq (a b : List Int) (ha : ∀ x ∈ a, isByte x = true) (hb : ∀ x ∈ b, isByte x = true) : ((strOfNums a).toList == (strOfNums b).toList) = decide (a = b) := by
  by_cases h : a = b
  · subst h; simp
  · rw [decide_eq_false h, beq_eq_false_iff_ne]
    exact fun e => h (strOf_inj a b ha hb e)
theorem vput9_isByte (v : Int) (h0 : 0 ≤ v) (h1 : v ≤ 18446744073709551615) : ∀ x ∈ vput 9 v, isByte x = true := vput_bytes 9 v h0 (by
  have h : (2 : Int) * 128 ^ 9 = 18446744073709551616 := by decide
  rw [h]
  omega)
theorem encTexts_isByte (m : List ByteArray) (hm : m.length ≤ 1000000) (hs : ∀ s ∈ m, s.size ≤ 1000000) : ∀ x ∈ encTexts m, isByte x = true := by
  have hl := wordsOf_len m []
  simp only [List.length_nil, Nat.zero_add] at hl
  intro x hx
  unfold encTexts at hx
  rcases List.mem_append.mp hx with hx | hx
  · rcases List.mem_append.mp hx with hx | hx
    · exact vput9_isByte _ (by omega) (by omega) x hx
    · obtain ⟨s, hs1, hx⟩ := List.mem_flatMap.mp hx
      unfold encT at hx
      rcases List.mem_append.mp hx with hx | hx
      · have : s.size ≤ 1000000 := by
          rcases wordsOf_from m [] s hs1 with h | h
          · cases h
          · exact hs s h
        exact vput9_isByte _ (by omega) (by omega) x hx
      · exact bytesOf_isByte s x hx
  · obtain ⟨s, hs1, hx⟩ := List.mem_flatMap.mp hx
    unfold which at hx
    have := List.idxOf_le_length (a := s) (l := wordsOf [] m)
    exact vput9_isByte _ (by omega) (by omega) x hx
/-- Marks out of words. -/
def mkT (s : ByteArray) : S39 := ⟨3, 0, s⟩
def finT (b : List Int) (m : List ByteArray) : List S39 × Int := if encTexts m = b then (m.map mkT, 0) else ([], 21)
theorem map_mkT (m : List ByteArray) : (m.map mkT).map S39.f2 = m := by
  rw [List.map_map]
  have e : S39.f2 ∘ mkT = id := rfl
  rw [e, List.map_id]
theorem getTx_l1 (b : List Int) (hb : ∀ x ∈ b, isByte x = true) (W : List ByteArray) (hWl : W.length ≤ 70000) (hWs : ∀ s ∈ W, s.size ≤ 400000) (n : Nat) (hn : n ≤ 70000) : ∀ (d k i : Nat) (r : List Int) (m : List ByteArray), i + d = n → d + 25 ≤ k → m.length = i → (∀ s ∈ m, s.size ≤ 400000) → r.length ≤ 1000000 → (∀ x ∈ r, isByte x = true) →
    column_getTexts.l1 k b (W.length : Int) r W (m.map mkT) (n : Int) (i : Int) = some (if (getWhich W d r).2.2 ≠ 0 then ([], (getWhich W d r).2.2) else finT b (m ++ (getWhich W d r).1)) := by
  intro d
  induction d with
  | zero =>
    intro k i r m hi hk hm hms hrl hrb
    obtain ⟨k, rfl⟩ : ∃ j, k = j + 1 := ⟨k - 1, by omega⟩
    rw [column_getTexts.l1, if_neg (by omega)]
    have hf : column_putTexts.f (m.map mkT) = some (encTexts m) := by
      unfold column_putTexts.f
      rw [if_pos ⟨by rw [List.length_map]; omega, by rw [List.all_eq_true]; intro x hx; obtain ⟨s, hs, rfl⟩ := List.mem_map.mp hx; exact decide_eq_true (hms s hs)⟩, map_mkT]
    rw [hf, Option.bind_some]
    unfold bytes_Equal.f
    rw [Option.bind_some, strOf_eq _ _ (encTexts_isByte m (by omega) (fun s hs => by have := hms s hs; omega)) hb]
    have e : getWhich W 0 r = ([], r, 0) := rfl
    rw [e]
    dsimp only
    rw [List.append_nil]
    unfold finT
    by_cases h : encTexts m = b
    · rw [if_pos (decide_eq_true h), if_pos h]; simp
    · rw [if_neg (show ¬ (decide (encTexts m = b) = true) from by simpa using h), if_neg h]; simp
  | succ d ih =>
    intro k i r m hi hk hm hms hrl hrb
    obtain ⟨k, rfl⟩ : ∃ j, k = j + 1 := ⟨k - 1, by omega⟩
    have hr := vget_range r hrb
    rw [column_getTexts.l1, if_pos (by omega), get_k k (by omega) r hrl hrb, Option.bind_some]
    unfold getWhich
    obtain ⟨u, hu⟩ : ∃ u, u = vget r := ⟨_, rfl⟩
    rw [← hu] at hr ⊢
    by_cases h1 : u.2.2 = 0
    · rw [if_pos h1, if_neg (show ¬ (u.2.2 ≠ 0) from by simpa using h1)]
      by_cases h2 : u.1 ≥ (W.length : Int)
      · rw [if_pos h2, if_pos h2]; rfl
      · have hlt : u.1.toNat < W.length := by omega
        have hmem : W.getD u.1.toNat ⟨#[]⟩ ∈ W := by rw [List.getD_eq_getElem?_getD, List.getElem?_eq_getElem hlt]; exact List.getElem_mem hlt
        have hx : (m.map mkT) ++ [(⟨3, 0, rdOf ByteArray.empty W u.1⟩ : S39)] = (m ++ [W.getD u.1.toNat ⟨#[]⟩]).map mkT := by
          rw [List.map_append]; rfl
        rw [if_neg h2, if_neg h2, if_pos hr.1, if_pos (by omega), if_pos (by rw [List.length_map]; omega), if_pos hr.2.2.1, if_pos hr.2.2.2, w64s i (by omega), hx,
          ih k (i + 1) (r.drop u.2.1.toNat) (m ++ [W.getD u.1.toNat ⟨#[]⟩]) (by omega) (by omega) (by simp [hm]) (fun s hs => by
            rcases List.mem_append.mp hs with h | h
            · exact hms s h
            · simp at h; rw [h]; exact hWs _ (by simpa using hmem)) (by rw [List.length_drop]; omega) (fun x hx => hrb x (List.mem_of_mem_drop hx))]
        by_cases h3 : (getWhich W d (r.drop u.2.1.toNat)).2.2 = 0
        · rw [if_neg (by simpa using h3), if_pos h3, if_neg (by simpa using h3), List.append_assoc]; rfl
        · rw [if_pos (by simpa using h3), if_neg h3, if_pos (by simpa using h3)]
    · rw [if_neg h1, if_pos (show u.2.2 ≠ 0 from h1), if_pos (show u.2.2 ≠ 0 from h1)]
theorem getTx_l0 (b : List Int) (hb : ∀ x ∈ b, isByte x = true) (n many : Nat) (hn : n ≤ 70000) (hmn : many ≤ 70000) : ∀ (d k j : Nat) (r : List Int) (W : List ByteArray), j + d = many → d + n + 30 ≤ k → W.length = j → (∀ s ∈ W, s.size ≤ 400000) → r.length ≤ 400000 → (∀ x ∈ r, isByte x = true) →
    column_getTexts.l0 k b (n : Int) (many : Int) r W (many : Int) (j : Int) = some (if (getWords d r).2.2 ≠ 0 then ([], (getWords d r).2.2) else if (getWhich (W ++ (getWords d r).1) n (getWords d r).2.1).2.2 ≠ 0 then ([], (getWhich (W ++ (getWords d r).1) n (getWords d r).2.1).2.2) else finT b (getWhich (W ++ (getWords d r).1) n (getWords d r).2.1).1) := by
  intro d
  induction d with
  | zero =>
    intro k j r W hj hk hW hWs hrl hrb
    obtain ⟨k, rfl⟩ : ∃ i, k = i + 1 := ⟨k - 1, by omega⟩
    have h := getTx_l1 b hb W (by omega) hWs n hn n k 0 r [] (by omega) (by omega) rfl (fun s hs => by cases hs) (by omega) hrb
    obtain rfl : many = W.length := by omega
    rw [column_getTexts.l0, if_neg (by omega)]
    unfold getWords
    rw [if_neg (by simp)]
    simp only [List.append_nil, List.nil_append, List.map_nil] at h ⊢
    exact h
  | succ d ih =>
    intro k j r W hj hk hW hWs hrl hrb
    obtain ⟨k, rfl⟩ : ∃ i, k = i + 1 := ⟨k - 1, by omega⟩
    have hr := vget_range r hrb
    rw [column_getTexts.l0, if_pos (by omega), get_k k (by omega) r (by omega) hrb, Option.bind_some]
    unfold getWords
    obtain ⟨u, hu⟩ : ∃ u, u = vget r := ⟨_, rfl⟩
    rw [← hu] at hr ⊢
    by_cases h1 : u.2.2 = 0
    · rw [if_pos h1, if_neg (show ¬ (u.2.2 ≠ 0) from by simpa using h1)]
      have hw : IntKind.u64.wrap (wrap64 ((r.length : Int) - u.2.1)) = (r.length : Int) - u.2.1 := by
        show wrap64 ((r.length : Int) - u.2.1) % 18446744073709551616 = _
        rw [w64 (by omega) (by omega)]
        omega
      rw [hw]
      by_cases h2 : u.1 > (r.length : Int) - u.2.1
      · rw [if_pos h2, if_pos h2]; rfl
      · have hw1 : wrap64 u.1 = u.1 := w64 (by omega) (by omega)
        have hw2 : wrap64 (u.2.1 + u.1) = u.2.1 + u.1 := w64 (by omega) (by omega)
        have hsz : (strOfNums ((r.take (u.2.1 + u.1).toNat).drop u.2.1.toNat)).size ≤ 400000 := by
          have : (strOfNums ((r.take (u.2.1 + u.1).toNat).drop u.2.1.toNat)).size = ((r.take (u.2.1 + u.1).toNat).drop u.2.1.toNat).length := by
            simp [strOfNums, ByteArray.size]
          rw [this, List.length_drop, List.length_take]
          omega
        have hu64 : IntKind.u64.wrap ((j : Int) + 1) = ((j + 1 : Nat) : Int) := by
          show ((j : Int) + 1) % 18446744073709551616 = _
          omega
        rw [if_neg h2, if_neg h2, hw1, hw2, if_pos hr.2.2.1, if_pos (by omega), if_pos (by omega), if_pos (by omega), if_pos (by omega), hu64,
          ih k (j + 1) (r.drop (u.2.1 + u.1).toNat) (W ++ [strOfNums ((r.take (u.2.1 + u.1).toNat).drop u.2.1.toNat)]) (by omega) (by omega) (by simp [hW]) (fun s hs => by
            rcases List.mem_append.mp hs with h | h
            · exact hWs s h
            · simp at h; rw [h]; exact hsz) (by rw [List.length_drop]; omega) (fun x hx => hrb x (List.mem_of_mem_drop hx))]
        by_cases h3 : (getWords d (r.drop (u.2.1 + u.1).toNat)).2.2 = 0
        · rw [if_neg (by simpa using h3), if_pos h3]
          dsimp only
          rw [if_neg (show ¬ ((getWords d (r.drop (u.2.1 + u.1).toNat)).2.2 ≠ 0) from by simpa using h3), List.append_assoc]
          rfl
        · rw [if_pos (by simpa using h3), if_neg h3]
          dsimp only
          rw [if_pos (show (getWords d (r.drop (u.2.1 + u.1).toNat)).2.2 ≠ 0 from h3)]
    · rw [if_neg h1, if_pos (show u.2.2 ≠ 0 from h1)]
      dsimp only
      rw [if_pos (show u.2.2 ≠ 0 from h1)]
theorem getTx_f (b : List Int) (n : Nat) (hn : n ≤ 65536) (hl : b.length ≤ 400000) (hb : ∀ x ∈ b, isByte x = true) (k : Nat) (hk : 2 * n + 31 ≤ k) : column_getTexts.f k b (n : Int) = some ((getTexts b n).1.map mkT, (getTexts b n).2) := by
  have hr := vget_range b hb
  unfold column_getTexts.f getTexts
  rw [get_k k (by omega) b (by omega) hb, Option.bind_some]
  obtain ⟨u, hu⟩ : ∃ u, u = vget b := ⟨_, rfl⟩
  rw [← hu] at hr ⊢
  by_cases h1 : u.2.2 = 0
  · rw [if_pos h1, if_neg (show ¬ (u.2.2 ≠ 0) from by simpa using h1)]
    have hw : IntKind.u64.wrap (n : Int) = (n : Int) := by show (n : Int) % 18446744073709551616 = _; omega
    rw [hw]
    by_cases h2 : u.1 > (n : Int)
    · rw [if_pos h2, if_pos h2]; rfl
    · rw [if_neg h2, if_neg h2, if_pos hr.2.2.1, if_pos hr.2.2.2]
      obtain ⟨many, hm⟩ : ∃ m, m = u.1.toNat := ⟨_, rfl⟩
      have hum : u.1 = (many : Int) := by omega
      rw [hum, Int.toNat_natCast]
      have h := getTx_l0 b hb n many (by omega) (by omega) many k 0 (b.drop u.2.1.toNat) [] (by omega) (by omega) rfl (fun s hs => by cases hs) (by rw [List.length_drop]; omega) (fun x hx => hb x (List.mem_of_mem_drop hx))
      rw [show ((0 : Nat) : Int) = 0 from rfl] at h
      rw [h]
      simp only [List.nil_append]
      generalize getWords many (b.drop u.2.1.toNat) = G
      by_cases h3 : G.2.2 ≠ 0
      · rw [if_pos h3, if_pos h3]; rfl
      · rw [if_neg h3, if_neg h3]
        generalize getWhich G.1 n G.2.1 = H
        by_cases h4 : H.2.2 ≠ 0
        · rw [if_pos h4, if_pos h4]; rfl
        · rw [if_neg h4, if_neg h4]
          unfold finT
          by_cases h5 : encTexts H.1 = b
          · rw [if_pos h5, if_pos h5]
          · rw [if_neg h5, if_neg h5]; rfl
  · rw [if_neg h1, if_pos (show u.2.2 ≠ 0 from h1)]; rfl
end Go.Proofs.Ytlmcefhpnfoahaa.P
end

section
namespace Go.Proofs.Ytlmcefhpnfoahaa.P
open Go.RowKit Go.Proofs.YtlmcefhpnfoahaaW.PrintWords Go.Proofs.YtlmcefhpnfoahaaW.PrintLast Go.Proofs.YtlmcefhpnfoahaaW.PrintMore
set_option linter.unusedVariables false
set_option linter.unusedSimpArgs false

theorem getMarks_1 (A : Option Addr) (c : Nat) (l : List Int) (n : Nat) (w : World) (hn : n ≤ 65536) (hll : l.length ≤ 400000) (hr : Kd.C (Kd.int .u8) w A l.length l) (hc : l.length ≤ c) (hb : ∀ x ∈ l, isByte x = true) :
    Calls Try.prog 134 #[.slice A l.length c, .int .i64 n] w (GetVPost w (getMarks 1 l n)) := getTruths_any A c l n w (by omega) (by omega) hr hc hb
theorem getMarks_2 (A : Option Addr) (c : Nat) (l : List Int) (n : Nat) (w : World) (hn : n ≤ 65536) (hll : l.length ≤ 400000) (hr : Kd.C (Kd.int .u8) w A l.length l) (hc : l.length ≤ c) (hb : ∀ x ∈ l, isByte x = true) :
    Calls Try.prog 136 #[.slice A l.length c, .int .i64 n] w (GetVPost w (getMarks 2 l n)) := column_getNumbers.calls (4 * n + 31) A c l n _ _ w hr hc (getNum_f l n hn (by omega) hb _ (Nat.le_refl _))
theorem getMarks_3 (A : Option Addr) (c : Nat) (l : List Int) (n : Nat) (w : World) (hn : n ≤ 65536) (hll : l.length ≤ 400000) (hr : Kd.C (Kd.int .u8) w A l.length l) (hc : l.length ≤ c) (hb : ∀ x ∈ l, isByte x = true) :
    Calls Try.prog 138 #[.slice A l.length c, .int .i64 n] w (GetVPost w (getMarks 3 l n)) :=
  (column_getTexts.calls (2 * n + 31) (fun k => k < w.heap.size) A c l n _ _ w (Kd.V_mk hc (Kd.C_F (Kd.heap_int .u8) hr)) (getTx_f l n hn hll hb _ (Nat.le_refl _))).mono fun e w' ⟨v, h1, h2, h3⟩ => ⟨v, h1, Kd.R_mono h2 (fun _ _ => trivial), h3⟩
def getColI (kind : Int) (l : List Int) (n : Int) : List S39 × Int := if kindB kind = true ∧ 0 ≤ n ∧ n ≤ 65536 then getCol kind l n.toNat else ([], 1)
/-- 's[1:]' of a row of values that is read. -/
theorem cut_one39 (ad : Addr) (n c : Nat) (hn : 0 < n) (hc : n ≤ c) : ∃ A', (∀ W : World, (Instr.slice 23 (.slice (some ad) n c) (some (.int .i64 1)) none none).run Try.prog W = .ok (.slice A' (n - 1) (c - 1)) W) ∧ (∀ (W : World) (x : S39) (l : List S39), Kd.C k39 W (some ad) n (x :: l) → Kd.C k39 W A' (n - 1) l) := by
  obtain ⟨i0, h0, hzz⟩ := Option.map_eq_some_iff.1 info39
  simp only [Prod.mk.injEq] at hzz
  refine ⟨if c = 1 then some ad else (some ad).map (·.add (1 * 3)), fun W => ?_, fun W x l hC => ?_⟩
  · exact Go.Proofs.YtlmcefhpnfoahaaW.PrintWords.cut_from (P := Try.prog) 23 39 .i64 Try.underlying23 h0 3 hzz.2.1 (some ad) n c 1 (by omega) (by omega) W
  · have hl : (x :: l).length = n := hC.1
    subst hl
    have := Kd.C_drop (m := 1) (c := c) hC (by simp) hc
    exact this
theorem Own.val_in {W : World} {A : Option Addr} {n : Nat} {x : S39} {l : List S39} (h : Kd.C k39 W A n (x :: l)) : ∃ ad, A = some ad ∧ W.cell? ad = some (.int .u8 x.f0) ∧ W.cell? ⟨ad.block, ad.off + 1, none⟩ = some (.int .i64 x.f1) ∧ W.cell? ⟨ad.block, ad.off + 2, none⟩ = some (.string x.f2) := by
  have hl : (x :: l).length = n := h.1
  obtain ⟨ad, e, h0, h1, h2⟩ := at_T39 h 0 (by omega) (by rw [← hl]; simp only [List.length_cons]; omega)
  have e0 : rd_T39 (x :: l) 0 = x := rfl
  rw [e0, show (0 : Int).toNat * 3 = 0 from rfl, Addr.add_zero'] at h0 h1 h2
  exact ⟨ad, e, h0, h1, h2⟩
def GC58.T22 : Bool × List (List Nat × List Nat) := (true, [([], []), ([], []), ([], []), ([2], [2]), ([3], [3]), ([], []), ([5], [5]), ([0, 1, 0, 1, 2, 3, 4], [0, 1]), ([7, 4, 0, 1, 2, 3, 4], [4, 7]), ([6, 8, 0, 1, 2, 3, 4, 5, 6, 7, 8], [2, 5, 6])])
def GC58.B22 : List Nat := [0, 0, 0, 4, 12, 0, 32, 31, 159, 511]
theorem GC58.tab22 : rtab .any (opsOf Try.f58 22) = GC58.T22 := by kernel_rfl
theorem GC58.bits22 : waitsOk GC58.T22.2 GC58.B22 = true := by kernel_rfl
set_option maxRecDepth 100000 in
set_option maxHeartbeats 3200000 in
theorem column_Get_1 (A : Option Addr) (c : Nat) (l : List Int) (m : Nat) (hm : m ≤ 65536) (hll : l.length ≤ 400000) (w : World) (hr : Kd.C (Kd.int .u8) w A l.length l) (hc : l.length ≤ c) (hb : ∀ x ∈ l, isByte x = true) :
    Calls Try.prog 58 #[.int .u8 1, .slice A l.length c, .int .i64 m] w (GetVPost w (getCol 1 l m)) := by
  have hmm := cway_look 1 (w.alloc (.map cwaysMap 3)) (b := w.heap.size) (heap_alloc_new w _)
  have hw1 : wayP 1 = .func (.func 133) #[] #[] := rfl
  have hw2 : wayG 1 = .func (.func 134) #[] #[] := rfl
  have hw3 : kindB 1 = true := rfl
  rw [hw1, hw2, hw3] at hmm
  clear hw1 hw2 hw3
  obtain ⟨W1, hW1⟩ : ∃ W, W = (w.alloc (.map cwaysMap 3)).alloc (.cells #[.func (.func 133) #[] #[], .func (.func 134) #[] #[]] 113) := ⟨_, rfl⟩
  have HBW := Aside0.mk (show Below w.heap.size w W1 by rw [hW1]; exact ((Below.refl _ _).alloc (Nat.le_refl _) _).alloc (by simp) _)
  have HG : Aside0 (W1.heap[w.heap.size + 1]? = some (.cells #[.func (.func 133) #[] #[], .func (.func 134) #[] #[]] 113 (0, 0))) := ⟨by rw [hW1]; have := heap_alloc_new (w.alloc (.map cwaysMap 3)) (.cells #[.func (.func 133) #[] #[], .func (.func 134) #[] #[]] 113); rwa [World.size_alloc] at this⟩
  have hr1 := Kd.C_below hr HBW.out
  have HR1 := Aside0.mk hr1
  obtain ⟨r, hR⟩ : ∃ r, r = getCol 1 l m := ⟨_, rfl⟩
  rw [← hR]
  unfold getCol at hR
  have hm0 : (0 : Int) ≤ (m : Int) := by omega
  have hm1 : (m : Int) ≤ 65536 := by omega
  have fin : ∀ (w' : World) (e : Int), Below W1.heap.size W1 w' → r = ([], e) → GetVPost w r (.returned (.tuple #[.slice none 0 0, .int .i64 e])) w' := fun w' e hb he => by subst he; exact getV_nil _ _ _ (below_then HBW.out HBW.out.size hb)
  have FIN := Aside0.mk fin
  clear fin
  by_cases h1 : l.length < (m + 7) / 8
  · rw [if_pos h1] at hR
    have M := Aside0.mk (take_short A c l m W1 (by omega) h1)
    have HRE := Aside0.mk hR
    rw [hW1] at M
    clear h1 hr hb hr1 hR
    go_enter Try.func58, Try.ntmps58
    go_wp2_with (first
      | (go_at_call 89; refine (cways_any _).mono ?_; rintro e w' ⟨rfl, rfl⟩)
      | (go_at_call 101; refine M.out.mono ?_; rintro e w1 ⟨rfl, rfl⟩))
    go_ret2
    exact FIN.out _ _ (by rw [hW1]; exact Below.refl _ _) HRE.out
  rw [if_neg h1] at hR
  have M0 := take_any A c l m W1 (by omega) (by omega) hr1 hc hb (by omega)
  by_cases h2 : loose l m = true
  · rw [if_pos h2] at hR
    rw [h2] at M0
    have M : Aside0 (Calls Try.prog 101 #[.slice A l.length c, .int .i64 m] W1 fun e w' => e = .returned (.tuple #[.slice none 0 0, .slice none 0 0, .int .i64 21]) ∧ Aside0 (Below W1.heap.size W1 w')) := ⟨M0.mono fun e w' h => by
      rcases h with ⟨_, h1, h2⟩ | ⟨h, _⟩
      · exact ⟨h1, ⟨h2⟩⟩
      · cases h⟩
    have HRE := Aside0.mk hR
    rw [hW1] at M FIN
    clear h1 h2 M0 hr hb hr1 hR HR1 HG HBW hW1
    go_enter Try.func58, Try.ntmps58
    go_wp2_with (first
      | (go_at_call 89; refine (cways_any _).mono ?_; rintro e w' ⟨rfl, rfl⟩)
      | (go_at_call 101; refine M.out.mono ?_; rintro e w1 ⟨rfl, HB⟩))
    go_ret2
    exact FIN.out _ _ HB.out HRE.out
  rw [if_neg h2] at hR
  rw [Bool.not_eq_true] at h2
  rw [h2] at M0
  obtain ⟨R, hRR⟩ : ∃ R, R = l.drop ((m + 7) / 8) := ⟨_, rfl⟩
  rw [← hRR] at hR
  have hRl : R.length = l.length - (m + 7) / 8 := by rw [hRR, List.length_drop]
  have HRB : Aside0 (∀ x ∈ R, isByte x = true) := ⟨fun x hx => hb x (by rw [hRR] at hx; exact List.mem_of_mem_drop hx)⟩
  have hR4 : R.length ≤ 400000 := by omega
  have M : Aside0 (Calls Try.prog 101 #[.slice A l.length c, .int .i64 m] W1 fun e w' => ∃ A1 c1 A' c', e = .returned (.tuple #[.slice A1 m c1, .slice A' R.length c', .int .i64 0]) ∧ m ≤ c1 ∧ R.length ≤ c' ∧ Aside0 (Kd.C Kd.bool w' A1 m ((List.range m).map (bitAt l))) ∧ Aside0 (Kd.C (Kd.int .u8) w' A' R.length R) ∧ Aside0 (Below W1.heap.size W1 w')) := ⟨M0.mono fun e w' h => by
    rcases h with ⟨h, _⟩ | ⟨_, v, A', c', h1, h2, h3, h4⟩
    · cases h
    · obtain ⟨A1, n1, c1, e1, hn1, hc1, hC1⟩ := h3.sl'
      subst e1
      have hn2 : n1 = m := hn1.out.trans (by simp)
      subst hn2
      have h5 := h4 w' (Kd.C_below hr1 h3.b)
      rw [← hRR, ← hRl] at h5
      exact ⟨A1, c1, A', c', by rw [hRl]; exact h1, hc1, by rw [hRl]; exact h2, hC1, ⟨h5⟩, ⟨h3.b⟩⟩⟩
  have HRE := Aside0.mk hR
  obtain ⟨cn, hcn⟩ : ∃ cn, cn = cntF (bitAt l) m := ⟨_, rfl⟩
  have HCN := Aside0.mk hcn
  have hcm : cn ≤ m := by rw [hcn]; exact cnt_le _ _
  rw [← hcn] at HRE
  rw [hW1] at M FIN HG HBW
  clear h1 h2 M0 hr hb hr1 hR HR1 hW1 hRR hRl hcn
  go_enter Try.func58, Try.ntmps58
  go_wp2_with (first
    | (go_at_call 89; refine (cways_any _).mono ?_; rintro e w' ⟨rfl, rfl⟩)
    | (go_at_call 101; refine M.out.mono ?_; rintro e w2 ⟨A1, c1, A9, c9, rfl, hc1, hc9, HC1, HC9, HB2⟩))
  clear hmm M
  go_loop [13, 15, 48] (fun v13 v15 v48 => ∃ k : Nat, k ≤ m ∧ v48 = .int .i64 k ∧ v13 = .int .i64 (cntF (bitAt l) k)) (fun _ _ v48 => m - (intOf v48).toNat)
  case atStart => exact ⟨0, Nat.zero_le _, rfl, rfl⟩
  case round =>
    obtain ⟨k, hk, rfl, rfl⟩ := hrel
    by_cases hlt : k < m
    · have hkn : (k : Int) < (m : Int) := by omega
      obtain ⟨ad, e, hx⟩ := Kd.at_bool HC1.out (k : Int) (by omega) hkn
      cases e
      rw [Int.toNat_natCast, bits_rd l m k hlt] at hx
      have HS := Aside0.mk (cnt_succ (bitAt l) k)
      have hck := cnt_le (bitAt l) k
      obtain ⟨q, hq⟩ : ∃ q, q = bitAt l k := ⟨_, rfl⟩
      rw [← hq] at hx HS
      clear hq
      cases q with
      | true =>
        go_wp2
        go_round
        case rel => exact ⟨k + 1, by omega, by go_num, by rw [HS.out]; rfl⟩
        case measure => simp [intOf]; omega
      | false =>
        go_wp2
        go_round
        case rel => exact ⟨k + 1, by omega, by go_num, by rw [HS.out]; go_num⟩
        case measure => simp [intOf]; omega
    · obtain rfl : m = k := by omega
      rw [← HCN.out]
      have MG := Aside0.mk (getMarks_1 A9 c9 R cn w2 (by omega) hR4 HC9.out hc9 HRB.out)
      have ML := Aside0.mk (marks_len_eq 1 R cn HRB.out)
      obtain ⟨G, hG⟩ : ∃ G, G = getMarks 1 R cn := ⟨_, rfl⟩
      rw [← hG] at MG ML HRE
      clear hG
      have hg2 := (HB2.out.block _ (blk_lt HG.out)).trans HG.out
      have q2 : w2.cell? ⟨w.heap.size + 1, 1, none⟩ = some (.func (.func 134) #[] #[]) := cell_of_row _ _ _ _ _ _ hg2
      clear hg2 hlt hk
      obtain ⟨G1, G2⟩ := G
      dsimp only at ML HRE
      by_cases he : G2 = 0
      · subst he
        have HRE2 := Aside0.mk (show r = (merge (bitAt l) 0 m G1, 0) by rw [HRE.out, if_neg (by simp)])
        have hGl := ML.out rfl
        have HB3 := Aside0.mk (Below.refl w2.heap.size w2)
        go_wp2_with (first
          | (go_at_call 134; refine MG.out.mono ?_; rintro e w3 ⟨v3, rfl, hr3, hb3⟩; have HB3 := Aside0.mk (below_then HB2.out HB2.out.size hb3); have HBB := Aside0.mk (Below.refl w3.heap.size w3); have HC1b := Aside0.mk (Kd.C_below HC1.out hb3); obtain ⟨A4, c4, e4, hc4, hC4⟩ := Kd.R_reads hr3; subst e4; have HC4 := Aside0.mk hC4; clear hr3 hb3 hC4)
          | ((with_reducible refine gate_dst (N := 69) rfl ?_); refine Kd.R_make k39 w3.heap.size 39 rfl (N := 69) rfl 23 _ _ rfl (m : Int) rfl rfl Try.underlying23 (.agg #[(.int .u8 0), (.int .i64 0), (.string ⟨#[]⟩)]) 32 info39 rfl (by decide) (by omega) z39 (ok := fun _ => True) (okp := fun _ => True) (k39_mkM _ _ _ z39) (fun _ hk => hk) trivial (by omega) (by omega) HBB.out HBB.out.size ?_; intro v4 w4 ho hb hg hnew; have HO := Aside0.mk (Own.mk ho hb (Nat.le_trans HBB.out.size hg.size)); clear ho hb hg hnew; obtain ⟨A5, n5, c5, e5, hn5, hnc5, _⟩ := HO.out.sl'; have hn3 : m = n5 := (hn5.out.trans (by simp)).symm; subst e5; subst hn3; clear hn5))
        go_loopw [16, 18, 19, 72] (fun v16 v18 v19 v72 W => ∃ (k : Nat) (A6 : Option Addr) (c6 : Nat) (M : List S39), k ≤ m ∧ v72 = .int .i64 k ∧ v16 = .slice A6 M.length c6 ∧ M.length ≤ c6 ∧ Aside0 (M = G1.drop (cntF (bitAt l) k)) ∧ Aside0 (Kd.C k39 w3 A6 M.length M) ∧ Aside0 (Own k39 39 w3.heap.size w3 W (.slice A5 m c5) (outK (bitAt l) m G1 k))) (fun _ _ _ v72 _ => m - (intOf v72).toNat)
        case atStart => exact ⟨0, A4, c4, G1, Nat.zero_le _, rfl, by rw [hGl], hc4, ⟨by rw [cnt_zero]; rfl⟩, HC4, ⟨HO.out.of_cast (by rw [outK_zero, Int.toNat_natCast])⟩⟩
        case round =>
          clear HO HBB MG HC4
          obtain ⟨k, A6, c6, M, hk, rfl, rfl, hc6, HM, HC6, HO⟩ := hrel
          by_cases hlt : k < m
          · have hkn : (k : Int) < (m : Int) := by omega
            obtain ⟨ad, e, hx⟩ := Kd.at_bool (Kd.C_below HC1b.out HO.out.b) (k : Int) (by omega) hkn
            cases e
            rw [Int.toNat_natCast, bits_rd l m k hlt] at hx
            have HS := Aside0.mk (cnt_succ (bitAt l) k)
            obtain ⟨q, hq⟩ : ∃ q, q = bitAt l k := ⟨_, rfl⟩
            have HQ := Aside0.mk hq
            rw [← hq] at hx HS
            clear hq
            cases q with
            | true =>
              have HN := Aside0.mk (outK_nul (bitAt l) m G1 k hlt HQ.out.symm)
              go_wp2
              go_roundw
              case rel => exact ⟨k + 1, A6, c6, M, by omega, by go_num, rfl, hc6, ⟨by rw [HS.out]; exact HM.out⟩, HC6, ⟨HO.out.of_cast HN.out.symm⟩⟩
              case measure => simp [intOf]; omega
            | false =>
              have hcl := cnt_lt (bitAt l) k m hlt HQ.out.symm
              rw [← HCN.out] at hcl
              have hMl : 0 < M.length := by rw [HM.out, List.length_drop]; omega
              cases M with
              | nil => simp at hMl
              | cons x M =>
                have hgx : G1.getD (cntF (bitAt l) k) z39 = x := by
                  have h := HM.out
                  rw [List.drop_eq_getElem_cons (by omega)] at h
                  injection h with h1 h2
                  rw [h1, List.getD_eq_getElem?_getD, List.getElem?_eq_getElem (by omega)]
                  rfl
                have HMN : Aside0 (M = G1.drop (cntF (bitAt l) (k + 1))) := ⟨by
                  have h := HM.out
                  rw [List.drop_eq_getElem_cons (by omega)] at h
                  injection h with h1 h2
                  rw [h2, HS.out]; rfl⟩
                have HOV := Aside0.mk (outK_val (bitAt l) m G1 k hlt HQ.out.symm x hgx)
                have HOL := Aside0.mk (outK_length (bitAt l) m G1 k)
                clear hgx
                obtain ⟨a0, e6, x0, x1, x2⟩ := Own.val_in (Kd.C_below HC6.out HO.out.b)
                subst e6
                have hM1 : 0 < (x :: M).length := hMl
                obtain ⟨A7, kc1, kc2⟩ := cut_one39 a0 (x :: M).length c6 hMl hc6
                have HK2 := Aside0.mk (kc2 w3 x M HC6.out)
                have hlm : (x :: M).length = M.length + 1 := rfl
                rw [hlm] at hMl hM1 hc6 kc1 HK2 ⊢
                rw [Nat.add_sub_cancel] at kc1 HK2
                clear kc2 hlm hcl
                obtain ⟨g8, c8, e8, _, _, cells, hcs⟩ := Kd.R_form HO.out.r (by rw [outK_length]; omega)
                injection e8 with e81 e82 e83
                subst e81
                clear e82 e83
                obtain ⟨ad5, e7, y0, y1, y2⟩ := at_T39 (Kd.R_reads' HO.out.r).2.2 (k : Int) (by omega) (by rw [outK_length]; omega)
                cases e7
                rw [Int.toNat_natCast] at y0 y1 y2
                simp only [add_plain] at y0 y1 y2
                have z0 := blk_frozen hcs (k * 3)
                have z1 := blk_frozen hcs (k * 3 + 1)
                have z2 := blk_frozen hcs (k * 3 + 2)
                have hM2 : (0 : Int) < ((M.length + 1 : Nat) : Int) := by omega
                have hM3 : (0 : Int) < (M.length : Int) + 1 := by omega
                clear hcs
                go_wp2_with fail
                refine start_ (n := 10) (S := fun W' => W'.cell? a0 = some (.int .u8 x.f0) ∧ W'.cell? ⟨a0.block, a0.off + 1, none⟩ = some (.int .i64 x.f1) ∧ W'.cell? ⟨a0.block, a0.off + 2, none⟩ = some (.string x.f2)) (ds := [8]) #[false, false, false, false, false, false, false, false, false, false] (by kernel_rfl) rfl rfl (⟨x0, x1, x2⟩) (fun hHeld => ?_)
                refine with_tabW GC58.tab22 GC58.bits22 (fun HT_ HW_ => ?_)
                refine pure_ (i := 0) (N := some 79) (v := ?_) (a' := ?_) #[true, false, false, false, false, false, false, false, false, false] rfl rfl (any_of HT_.out (by kernel_rfl)) (fun _ _ _ h => h) (Or.inl ⟨by rfl, ?_⟩) ?_ ?_
                rotate_left
                · intro w'
                  go_simp
                  with_reducible rfl
                rotate_left
                · simp only [Act.put, List.setIfInBounds_toArray, List.set_cons_zero, List.set_cons_succ, i64_w, i32_w]
                  rfl
                refine pure_ (i := 1) (N := some 80) (v := ?_) (a' := ?_) #[true, true, false, false, false, false, false, false, false, false] rfl rfl (any_of HT_.out (by kernel_rfl)) (fun _ _ _ h => h) (Or.inl ⟨by rfl, ?_⟩) ?_ ?_
                rotate_left
                · intro w'
                  go_simp
                  with_reducible rfl
                rotate_left
                · simp only [Act.put, List.setIfInBounds_toArray, List.set_cons_zero, List.set_cons_succ, i64_w, i32_w]
                  rfl
                refine pure_ (i := 2) (N := some 81) (v := ?_) (a' := ?_) #[true, true, true, false, false, false, false, false, false, false] rfl rfl (any_of HT_.out (by kernel_rfl)) (fun _ _ _ h => h) (Or.inl ⟨by rfl, ?_⟩) ?_ ?_
                rotate_left
                · intro w'
                  go_simp
                  with_reducible rfl
                rotate_left
                · simp only [Act.put, List.setIfInBounds_toArray, List.set_cons_zero, List.set_cons_succ, i64_w, i32_w]
                  rfl
                refine pure_ (i := 3) (N := some 82) (v := ?_) (a' := ?_) #[true, true, true, true, false, false, false, false, false, false] rfl rfl (any_of HT_.out (by kernel_rfl)) (fun _ _ _ h => h) (Or.inl ⟨by rfl, ?_⟩) ?_ ?_
                rotate_left
                · intro w'
                  go_simp
                  with_reducible rfl
                rotate_left
                · simp only [Act.put, List.setIfInBounds_toArray, List.set_cons_zero, List.set_cons_succ, i64_w, i32_w]
                  rfl
                refine take_ (i := 4) (N := some 83) (v := ?_) (a' := ?_) #[true, true, true, true, true, false, false, false, false, false] rfl rfl (take_ofW HT_.out HW_.out (by kernel_rfl)) (fun _ _ _ h => h) (Or.inl ⟨by rfl, ?_⟩) hHeld ?_ ?_
                rotate_left
                · intro w' s0
                  (try dsimp only at s0)
                  (try go_split_ands)
                  go_simp
                  with_reducible rfl
                rotate_left
                · simp only [Act.put, List.setIfInBounds_toArray, List.set_cons_zero, List.set_cons_succ, i64_w, i32_w]
                  rfl
                refine pure_ (i := 5) (N := some 84) (v := ?_) (a' := ?_) #[true, true, true, true, true, true, false, false, false, false] rfl rfl (any_of HT_.out (by kernel_rfl)) (fun _ _ _ h => h) (Or.inl ⟨by rfl, ?_⟩) ?_ ?_
                rotate_left
                · intro w'
                  go_simp
                  with_reducible rfl
                rotate_left
                · simp only [Act.put, List.setIfInBounds_toArray, List.set_cons_zero, List.set_cons_succ, i64_w, i32_w]
                  rfl
                refine pure_ (i := 6) (N := some 85) (v := ?_) (a' := ?_) #[true, true, true, true, true, true, true, false, false, false] rfl rfl (any_of HT_.out (by kernel_rfl)) (fun _ _ _ h => h) (Or.inl ⟨by rfl, ?_⟩) ?_ ?_
                rotate_left
                · intro w'
                  go_simp
                  with_reducible rfl
                rotate_left
                · simp only [Act.put, List.setIfInBounds_toArray, List.set_cons_zero, List.set_cons_succ, i64_w, i32_w]
                  rfl
                refine pure_ (i := 7) (N := some 86) (v := ?_) (a' := ?_) #[true, true, true, true, true, true, true, true, false, false] rfl rfl (any_of HT_.out (by kernel_rfl)) (fun _ _ _ h => h) (Or.inl ⟨by rfl, ?_⟩) ?_ ?_
                rotate_left
                · intro w'
                  go_simp
                  with_reducible rfl
                rotate_left
                · simp only [Act.put, List.setIfInBounds_toArray, List.set_cons_zero, List.set_cons_succ, i64_w, i32_w]
                  rfl
                refine last_ (i := 8) (N := none) #[true, true, true, true, true, true, true, true, true, false] rfl rfl (one_of HT_.out (by kernel_rfl)) (by decide) (fun K hK => ?_)
                refine skip_ (w1 := ?_) (by rfl) rfl ?_ ?_
                rotate_left
                · go_simp
                  rfl
                refine hK.out _ _ ?_
                clear hK K
                refine pure_ (i := 9) (N := some 16) (v := ?_) (a' := ?_) #[true, true, true, true, true, true, true, true, true, true] rfl rfl (any_of HT_.out (by kernel_rfl)) (fun _ _ _ h => h) (Or.inl ⟨by rfl, ?_⟩) ?_ ?_
                rotate_left
                · intro w'
                  go_simp
                  with_reducible rfl
                rotate_left
                · simp only [Act.put, List.setIfInBounds_toArray, List.set_cons_zero, List.set_cons_succ, i64_w, i32_w]
                  rfl
                refine done_ (done_of HT_.out (by kernel_rfl)) ?_
                go_wp2_with fail
                have HO7 := Aside0.mk ((Own.putV HO.out k (by rw [HOL.out]; exact hlt) x).drew)
                go_roundw
                case rel => exact ⟨k + 1, A7, c6 - 1, M, by omega, by go_num, rfl, by omega, HMN, HK2, ⟨HO7.out.of_cast HOV.out⟩⟩
                case measure => simp [intOf]; omega
          · obtain rfl : m = k := by omega
            go_wp2
            go_ret2
            have HO8 := HO.out.of_cast (outK_all (bitAt l) m G1)
            rw [HRE2.out]
            exact ⟨_, rfl, Kd.R_lower HO8.r (Nat.le_trans HBW.out.size (by have := HB3.out.size; exact this)), below_then HBW.out HBW.out.size (below_then HB3.out HB3.out.size HO8.b)⟩
      · have HRE2 := Aside0.mk (show r = ([], G2) by rw [HRE.out, if_pos he])
        have q0 : (G2 == 0) = false := beq_eq_false_iff_ne.mpr he
        have q1 : (G2 != 0) = true := by simp [bne, q0]
        clear he
        go_wp2_with (go_at_call 134; refine MG.out.mono ?_; rintro e w3 ⟨v3, rfl, hr3, hb3⟩; have HB3 := Aside0.mk (below_then HB2.out HB2.out.size hb3); clear hr3 hb3)
        go_ret2
        exact FIN.out _ _ HB3.out HRE2.out
set_option maxRecDepth 100000 in
set_option maxHeartbeats 3200000 in
theorem column_Get_2 (A : Option Addr) (c : Nat) (l : List Int) (m : Nat) (hm : m ≤ 65536) (hll : l.length ≤ 400000) (w : World) (hr : Kd.C (Kd.int .u8) w A l.length l) (hc : l.length ≤ c) (hb : ∀ x ∈ l, isByte x = true) :
    Calls Try.prog 58 #[.int .u8 2, .slice A l.length c, .int .i64 m] w (GetVPost w (getCol 2 l m)) := by
  have hmm := cway_look 2 (w.alloc (.map cwaysMap 3)) (b := w.heap.size) (heap_alloc_new w _)
  have hw1 : wayP 2 = .func (.func 135) #[] #[] := rfl
  have hw2 : wayG 2 = .func (.func 136) #[] #[] := rfl
  have hw3 : kindB 2 = true := rfl
  rw [hw1, hw2, hw3] at hmm
  clear hw1 hw2 hw3
  obtain ⟨W1, hW1⟩ : ∃ W, W = (w.alloc (.map cwaysMap 3)).alloc (.cells #[.func (.func 135) #[] #[], .func (.func 136) #[] #[]] 113) := ⟨_, rfl⟩
  have HBW := Aside0.mk (show Below w.heap.size w W1 by rw [hW1]; exact ((Below.refl _ _).alloc (Nat.le_refl _) _).alloc (by simp) _)
  have HG : Aside0 (W1.heap[w.heap.size + 1]? = some (.cells #[.func (.func 135) #[] #[], .func (.func 136) #[] #[]] 113 (0, 0))) := ⟨by rw [hW1]; have := heap_alloc_new (w.alloc (.map cwaysMap 3)) (.cells #[.func (.func 135) #[] #[], .func (.func 136) #[] #[]] 113); rwa [World.size_alloc] at this⟩
  have hr1 := Kd.C_below hr HBW.out
  have HR1 := Aside0.mk hr1
  obtain ⟨r, hR⟩ : ∃ r, r = getCol 2 l m := ⟨_, rfl⟩
  rw [← hR]
  unfold getCol at hR
  have hm0 : (0 : Int) ≤ (m : Int) := by omega
  have hm1 : (m : Int) ≤ 65536 := by omega
  have fin : ∀ (w' : World) (e : Int), Below W1.heap.size W1 w' → r = ([], e) → GetVPost w r (.returned (.tuple #[.slice none 0 0, .int .i64 e])) w' := fun w' e hb he => by subst he; exact getV_nil _ _ _ (below_then HBW.out HBW.out.size hb)
  have FIN := Aside0.mk fin
  clear fin
  by_cases h1 : l.length < (m + 7) / 8
  · rw [if_pos h1] at hR
    have M := Aside0.mk (take_short A c l m W1 (by omega) h1)
    have HRE := Aside0.mk hR
    rw [hW1] at M
    clear h1 hr hb hr1 hR
    go_enter Try.func58, Try.ntmps58
    go_wp2_with (first
      | (go_at_call 89; refine (cways_any _).mono ?_; rintro e w' ⟨rfl, rfl⟩)
      | (go_at_call 101; refine M.out.mono ?_; rintro e w1 ⟨rfl, rfl⟩))
    go_ret2
    exact FIN.out _ _ (by rw [hW1]; exact Below.refl _ _) HRE.out
  rw [if_neg h1] at hR
  have M0 := take_any A c l m W1 (by omega) (by omega) hr1 hc hb (by omega)
  by_cases h2 : loose l m = true
  · rw [if_pos h2] at hR
    rw [h2] at M0
    have M : Aside0 (Calls Try.prog 101 #[.slice A l.length c, .int .i64 m] W1 fun e w' => e = .returned (.tuple #[.slice none 0 0, .slice none 0 0, .int .i64 21]) ∧ Aside0 (Below W1.heap.size W1 w')) := ⟨M0.mono fun e w' h => by
      rcases h with ⟨_, h1, h2⟩ | ⟨h, _⟩
      · exact ⟨h1, ⟨h2⟩⟩
      · cases h⟩
    have HRE := Aside0.mk hR
    rw [hW1] at M FIN
    clear h1 h2 M0 hr hb hr1 hR HR1 HG HBW hW1
    go_enter Try.func58, Try.ntmps58
    go_wp2_with (first
      | (go_at_call 89; refine (cways_any _).mono ?_; rintro e w' ⟨rfl, rfl⟩)
      | (go_at_call 101; refine M.out.mono ?_; rintro e w1 ⟨rfl, HB⟩))
    go_ret2
    exact FIN.out _ _ HB.out HRE.out
  rw [if_neg h2] at hR
  rw [Bool.not_eq_true] at h2
  rw [h2] at M0
  obtain ⟨R, hRR⟩ : ∃ R, R = l.drop ((m + 7) / 8) := ⟨_, rfl⟩
  rw [← hRR] at hR
  have hRl : R.length = l.length - (m + 7) / 8 := by rw [hRR, List.length_drop]
  have HRB : Aside0 (∀ x ∈ R, isByte x = true) := ⟨fun x hx => hb x (by rw [hRR] at hx; exact List.mem_of_mem_drop hx)⟩
  have hR4 : R.length ≤ 400000 := by omega
  have M : Aside0 (Calls Try.prog 101 #[.slice A l.length c, .int .i64 m] W1 fun e w' => ∃ A1 c1 A' c', e = .returned (.tuple #[.slice A1 m c1, .slice A' R.length c', .int .i64 0]) ∧ m ≤ c1 ∧ R.length ≤ c' ∧ Aside0 (Kd.C Kd.bool w' A1 m ((List.range m).map (bitAt l))) ∧ Aside0 (Kd.C (Kd.int .u8) w' A' R.length R) ∧ Aside0 (Below W1.heap.size W1 w')) := ⟨M0.mono fun e w' h => by
    rcases h with ⟨h, _⟩ | ⟨_, v, A', c', h1, h2, h3, h4⟩
    · cases h
    · obtain ⟨A1, n1, c1, e1, hn1, hc1, hC1⟩ := h3.sl'
      subst e1
      have hn2 : n1 = m := hn1.out.trans (by simp)
      subst hn2
      have h5 := h4 w' (Kd.C_below hr1 h3.b)
      rw [← hRR, ← hRl] at h5
      exact ⟨A1, c1, A', c', by rw [hRl]; exact h1, hc1, by rw [hRl]; exact h2, hC1, ⟨h5⟩, ⟨h3.b⟩⟩⟩
  have HRE := Aside0.mk hR
  obtain ⟨cn, hcn⟩ : ∃ cn, cn = cntF (bitAt l) m := ⟨_, rfl⟩
  have HCN := Aside0.mk hcn
  have hcm : cn ≤ m := by rw [hcn]; exact cnt_le _ _
  rw [← hcn] at HRE
  rw [hW1] at M FIN HG HBW
  clear h1 h2 M0 hr hb hr1 hR HR1 hW1 hRR hRl hcn
  go_enter Try.func58, Try.ntmps58
  go_wp2_with (first
    | (go_at_call 89; refine (cways_any _).mono ?_; rintro e w' ⟨rfl, rfl⟩)
    | (go_at_call 101; refine M.out.mono ?_; rintro e w2 ⟨A1, c1, A9, c9, rfl, hc1, hc9, HC1, HC9, HB2⟩))
  clear hmm M
  go_loop [13, 15, 48] (fun v13 v15 v48 => ∃ k : Nat, k ≤ m ∧ v48 = .int .i64 k ∧ v13 = .int .i64 (cntF (bitAt l) k)) (fun _ _ v48 => m - (intOf v48).toNat)
  case atStart => exact ⟨0, Nat.zero_le _, rfl, rfl⟩
  case round =>
    obtain ⟨k, hk, rfl, rfl⟩ := hrel
    by_cases hlt : k < m
    · have hkn : (k : Int) < (m : Int) := by omega
      obtain ⟨ad, e, hx⟩ := Kd.at_bool HC1.out (k : Int) (by omega) hkn
      cases e
      rw [Int.toNat_natCast, bits_rd l m k hlt] at hx
      have HS := Aside0.mk (cnt_succ (bitAt l) k)
      have hck := cnt_le (bitAt l) k
      obtain ⟨q, hq⟩ : ∃ q, q = bitAt l k := ⟨_, rfl⟩
      rw [← hq] at hx HS
      clear hq
      cases q with
      | true =>
        go_wp2
        go_round
        case rel => exact ⟨k + 1, by omega, by go_num, by rw [HS.out]; rfl⟩
        case measure => simp [intOf]; omega
      | false =>
        go_wp2
        go_round
        case rel => exact ⟨k + 1, by omega, by go_num, by rw [HS.out]; go_num⟩
        case measure => simp [intOf]; omega
    · obtain rfl : m = k := by omega
      rw [← HCN.out]
      have MG := Aside0.mk (getMarks_2 A9 c9 R cn w2 (by omega) hR4 HC9.out hc9 HRB.out)
      have ML := Aside0.mk (marks_len_eq 2 R cn HRB.out)
      obtain ⟨G, hG⟩ : ∃ G, G = getMarks 2 R cn := ⟨_, rfl⟩
      rw [← hG] at MG ML HRE
      clear hG
      have hg2 := (HB2.out.block _ (blk_lt HG.out)).trans HG.out
      have q2 : w2.cell? ⟨w.heap.size + 1, 1, none⟩ = some (.func (.func 136) #[] #[]) := cell_of_row _ _ _ _ _ _ hg2
      clear hg2 hlt hk
      obtain ⟨G1, G2⟩ := G
      dsimp only at ML HRE
      by_cases he : G2 = 0
      · subst he
        have HRE2 := Aside0.mk (show r = (merge (bitAt l) 0 m G1, 0) by rw [HRE.out, if_neg (by simp)])
        have hGl := ML.out rfl
        have HB3 := Aside0.mk (Below.refl w2.heap.size w2)
        go_wp2_with (first
          | (go_at_call 136; refine MG.out.mono ?_; rintro e w3 ⟨v3, rfl, hr3, hb3⟩; have HB3 := Aside0.mk (below_then HB2.out HB2.out.size hb3); have HBB := Aside0.mk (Below.refl w3.heap.size w3); have HC1b := Aside0.mk (Kd.C_below HC1.out hb3); obtain ⟨A4, c4, e4, hc4, hC4⟩ := Kd.R_reads hr3; subst e4; have HC4 := Aside0.mk hC4; clear hr3 hb3 hC4)
          | ((with_reducible refine gate_dst (N := 69) rfl ?_); refine Kd.R_make k39 w3.heap.size 39 rfl (N := 69) rfl 23 _ _ rfl (m : Int) rfl rfl Try.underlying23 (.agg #[(.int .u8 0), (.int .i64 0), (.string ⟨#[]⟩)]) 32 info39 rfl (by decide) (by omega) z39 (ok := fun _ => True) (okp := fun _ => True) (k39_mkM _ _ _ z39) (fun _ hk => hk) trivial (by omega) (by omega) HBB.out HBB.out.size ?_; intro v4 w4 ho hb hg hnew; have HO := Aside0.mk (Own.mk ho hb (Nat.le_trans HBB.out.size hg.size)); clear ho hb hg hnew; obtain ⟨A5, n5, c5, e5, hn5, hnc5, _⟩ := HO.out.sl'; have hn3 : m = n5 := (hn5.out.trans (by simp)).symm; subst e5; subst hn3; clear hn5))
        go_loopw [16, 18, 19, 72] (fun v16 v18 v19 v72 W => ∃ (k : Nat) (A6 : Option Addr) (c6 : Nat) (M : List S39), k ≤ m ∧ v72 = .int .i64 k ∧ v16 = .slice A6 M.length c6 ∧ M.length ≤ c6 ∧ Aside0 (M = G1.drop (cntF (bitAt l) k)) ∧ Aside0 (Kd.C k39 w3 A6 M.length M) ∧ Aside0 (Own k39 39 w3.heap.size w3 W (.slice A5 m c5) (outK (bitAt l) m G1 k))) (fun _ _ _ v72 _ => m - (intOf v72).toNat)
        case atStart => exact ⟨0, A4, c4, G1, Nat.zero_le _, rfl, by rw [hGl], hc4, ⟨by rw [cnt_zero]; rfl⟩, HC4, ⟨HO.out.of_cast (by rw [outK_zero, Int.toNat_natCast])⟩⟩
        case round =>
          clear HO HBB MG HC4
          obtain ⟨k, A6, c6, M, hk, rfl, rfl, hc6, HM, HC6, HO⟩ := hrel
          by_cases hlt : k < m
          · have hkn : (k : Int) < (m : Int) := by omega
            obtain ⟨ad, e, hx⟩ := Kd.at_bool (Kd.C_below HC1b.out HO.out.b) (k : Int) (by omega) hkn
            cases e
            rw [Int.toNat_natCast, bits_rd l m k hlt] at hx
            have HS := Aside0.mk (cnt_succ (bitAt l) k)
            obtain ⟨q, hq⟩ : ∃ q, q = bitAt l k := ⟨_, rfl⟩
            have HQ := Aside0.mk hq
            rw [← hq] at hx HS
            clear hq
            cases q with
            | true =>
              have HN := Aside0.mk (outK_nul (bitAt l) m G1 k hlt HQ.out.symm)
              go_wp2
              go_roundw
              case rel => exact ⟨k + 1, A6, c6, M, by omega, by go_num, rfl, hc6, ⟨by rw [HS.out]; exact HM.out⟩, HC6, ⟨HO.out.of_cast HN.out.symm⟩⟩
              case measure => simp [intOf]; omega
            | false =>
              have hcl := cnt_lt (bitAt l) k m hlt HQ.out.symm
              rw [← HCN.out] at hcl
              have hMl : 0 < M.length := by rw [HM.out, List.length_drop]; omega
              cases M with
              | nil => simp at hMl
              | cons x M =>
                have hgx : G1.getD (cntF (bitAt l) k) z39 = x := by
                  have h := HM.out
                  rw [List.drop_eq_getElem_cons (by omega)] at h
                  injection h with h1 h2
                  rw [h1, List.getD_eq_getElem?_getD, List.getElem?_eq_getElem (by omega)]
                  rfl
                have HMN : Aside0 (M = G1.drop (cntF (bitAt l) (k + 1))) := ⟨by
                  have h := HM.out
                  rw [List.drop_eq_getElem_cons (by omega)] at h
                  injection h with h1 h2
                  rw [h2, HS.out]; rfl⟩
                have HOV := Aside0.mk (outK_val (bitAt l) m G1 k hlt HQ.out.symm x hgx)
                have HOL := Aside0.mk (outK_length (bitAt l) m G1 k)
                clear hgx
                obtain ⟨a0, e6, x0, x1, x2⟩ := Own.val_in (Kd.C_below HC6.out HO.out.b)
                subst e6
                have hM1 : 0 < (x :: M).length := hMl
                obtain ⟨A7, kc1, kc2⟩ := cut_one39 a0 (x :: M).length c6 hMl hc6
                have HK2 := Aside0.mk (kc2 w3 x M HC6.out)
                have hlm : (x :: M).length = M.length + 1 := rfl
                rw [hlm] at hMl hM1 hc6 kc1 HK2 ⊢
                rw [Nat.add_sub_cancel] at kc1 HK2
                clear kc2 hlm hcl
                obtain ⟨g8, c8, e8, _, _, cells, hcs⟩ := Kd.R_form HO.out.r (by rw [outK_length]; omega)
                injection e8 with e81 e82 e83
                subst e81
                clear e82 e83
                obtain ⟨ad5, e7, y0, y1, y2⟩ := at_T39 (Kd.R_reads' HO.out.r).2.2 (k : Int) (by omega) (by rw [outK_length]; omega)
                cases e7
                rw [Int.toNat_natCast] at y0 y1 y2
                simp only [add_plain] at y0 y1 y2
                have z0 := blk_frozen hcs (k * 3)
                have z1 := blk_frozen hcs (k * 3 + 1)
                have z2 := blk_frozen hcs (k * 3 + 2)
                have hM2 : (0 : Int) < ((M.length + 1 : Nat) : Int) := by omega
                have hM3 : (0 : Int) < (M.length : Int) + 1 := by omega
                clear hcs
                go_wp2_with fail
                refine start_ (n := 10) (S := fun W' => W'.cell? a0 = some (.int .u8 x.f0) ∧ W'.cell? ⟨a0.block, a0.off + 1, none⟩ = some (.int .i64 x.f1) ∧ W'.cell? ⟨a0.block, a0.off + 2, none⟩ = some (.string x.f2)) (ds := [8]) #[false, false, false, false, false, false, false, false, false, false] (by kernel_rfl) rfl rfl (⟨x0, x1, x2⟩) (fun hHeld => ?_)
                refine with_tabW GC58.tab22 GC58.bits22 (fun HT_ HW_ => ?_)
                refine pure_ (i := 0) (N := some 79) (v := ?_) (a' := ?_) #[true, false, false, false, false, false, false, false, false, false] rfl rfl (any_of HT_.out (by kernel_rfl)) (fun _ _ _ h => h) (Or.inl ⟨by rfl, ?_⟩) ?_ ?_
                rotate_left
                · intro w'
                  go_simp
                  with_reducible rfl
                rotate_left
                · simp only [Act.put, List.setIfInBounds_toArray, List.set_cons_zero, List.set_cons_succ, i64_w, i32_w]
                  rfl
                refine pure_ (i := 1) (N := some 80) (v := ?_) (a' := ?_) #[true, true, false, false, false, false, false, false, false, false] rfl rfl (any_of HT_.out (by kernel_rfl)) (fun _ _ _ h => h) (Or.inl ⟨by rfl, ?_⟩) ?_ ?_
                rotate_left
                · intro w'
                  go_simp
                  with_reducible rfl
                rotate_left
                · simp only [Act.put, List.setIfInBounds_toArray, List.set_cons_zero, List.set_cons_succ, i64_w, i32_w]
                  rfl
                refine pure_ (i := 2) (N := some 81) (v := ?_) (a' := ?_) #[true, true, true, false, false, false, false, false, false, false] rfl rfl (any_of HT_.out (by kernel_rfl)) (fun _ _ _ h => h) (Or.inl ⟨by rfl, ?_⟩) ?_ ?_
                rotate_left
                · intro w'
                  go_simp
                  with_reducible rfl
                rotate_left
                · simp only [Act.put, List.setIfInBounds_toArray, List.set_cons_zero, List.set_cons_succ, i64_w, i32_w]
                  rfl
                refine pure_ (i := 3) (N := some 82) (v := ?_) (a' := ?_) #[true, true, true, true, false, false, false, false, false, false] rfl rfl (any_of HT_.out (by kernel_rfl)) (fun _ _ _ h => h) (Or.inl ⟨by rfl, ?_⟩) ?_ ?_
                rotate_left
                · intro w'
                  go_simp
                  with_reducible rfl
                rotate_left
                · simp only [Act.put, List.setIfInBounds_toArray, List.set_cons_zero, List.set_cons_succ, i64_w, i32_w]
                  rfl
                refine take_ (i := 4) (N := some 83) (v := ?_) (a' := ?_) #[true, true, true, true, true, false, false, false, false, false] rfl rfl (take_ofW HT_.out HW_.out (by kernel_rfl)) (fun _ _ _ h => h) (Or.inl ⟨by rfl, ?_⟩) hHeld ?_ ?_
                rotate_left
                · intro w' s0
                  (try dsimp only at s0)
                  (try go_split_ands)
                  go_simp
                  with_reducible rfl
                rotate_left
                · simp only [Act.put, List.setIfInBounds_toArray, List.set_cons_zero, List.set_cons_succ, i64_w, i32_w]
                  rfl
                refine pure_ (i := 5) (N := some 84) (v := ?_) (a' := ?_) #[true, true, true, true, true, true, false, false, false, false] rfl rfl (any_of HT_.out (by kernel_rfl)) (fun _ _ _ h => h) (Or.inl ⟨by rfl, ?_⟩) ?_ ?_
                rotate_left
                · intro w'
                  go_simp
                  with_reducible rfl
                rotate_left
                · simp only [Act.put, List.setIfInBounds_toArray, List.set_cons_zero, List.set_cons_succ, i64_w, i32_w]
                  rfl
                refine pure_ (i := 6) (N := some 85) (v := ?_) (a' := ?_) #[true, true, true, true, true, true, true, false, false, false] rfl rfl (any_of HT_.out (by kernel_rfl)) (fun _ _ _ h => h) (Or.inl ⟨by rfl, ?_⟩) ?_ ?_
                rotate_left
                · intro w'
                  go_simp
                  with_reducible rfl
                rotate_left
                · simp only [Act.put, List.setIfInBounds_toArray, List.set_cons_zero, List.set_cons_succ, i64_w, i32_w]
                  rfl
                refine pure_ (i := 7) (N := some 86) (v := ?_) (a' := ?_) #[true, true, true, true, true, true, true, true, false, false] rfl rfl (any_of HT_.out (by kernel_rfl)) (fun _ _ _ h => h) (Or.inl ⟨by rfl, ?_⟩) ?_ ?_
                rotate_left
                · intro w'
                  go_simp
                  with_reducible rfl
                rotate_left
                · simp only [Act.put, List.setIfInBounds_toArray, List.set_cons_zero, List.set_cons_succ, i64_w, i32_w]
                  rfl
                refine last_ (i := 8) (N := none) #[true, true, true, true, true, true, true, true, true, false] rfl rfl (one_of HT_.out (by kernel_rfl)) (by decide) (fun K hK => ?_)
                refine skip_ (w1 := ?_) (by rfl) rfl ?_ ?_
                rotate_left
                · go_simp
                  rfl
                refine hK.out _ _ ?_
                clear hK K
                refine pure_ (i := 9) (N := some 16) (v := ?_) (a' := ?_) #[true, true, true, true, true, true, true, true, true, true] rfl rfl (any_of HT_.out (by kernel_rfl)) (fun _ _ _ h => h) (Or.inl ⟨by rfl, ?_⟩) ?_ ?_
                rotate_left
                · intro w'
                  go_simp
                  with_reducible rfl
                rotate_left
                · simp only [Act.put, List.setIfInBounds_toArray, List.set_cons_zero, List.set_cons_succ, i64_w, i32_w]
                  rfl
                refine done_ (done_of HT_.out (by kernel_rfl)) ?_
                go_wp2_with fail
                have HO7 := Aside0.mk ((Own.putV HO.out k (by rw [HOL.out]; exact hlt) x).drew)
                go_roundw
                case rel => exact ⟨k + 1, A7, c6 - 1, M, by omega, by go_num, rfl, by omega, HMN, HK2, ⟨HO7.out.of_cast HOV.out⟩⟩
                case measure => simp [intOf]; omega
          · obtain rfl : m = k := by omega
            go_wp2
            go_ret2
            have HO8 := HO.out.of_cast (outK_all (bitAt l) m G1)
            rw [HRE2.out]
            exact ⟨_, rfl, Kd.R_lower HO8.r (Nat.le_trans HBW.out.size (by have := HB3.out.size; exact this)), below_then HBW.out HBW.out.size (below_then HB3.out HB3.out.size HO8.b)⟩
      · have HRE2 := Aside0.mk (show r = ([], G2) by rw [HRE.out, if_pos he])
        have q0 : (G2 == 0) = false := beq_eq_false_iff_ne.mpr he
        have q1 : (G2 != 0) = true := by simp [bne, q0]
        clear he
        go_wp2_with (go_at_call 136; refine MG.out.mono ?_; rintro e w3 ⟨v3, rfl, hr3, hb3⟩; have HB3 := Aside0.mk (below_then HB2.out HB2.out.size hb3); clear hr3 hb3)
        go_ret2
        exact FIN.out _ _ HB3.out HRE2.out
set_option maxRecDepth 100000 in
set_option maxHeartbeats 3200000 in
theorem column_Get_3 (A : Option Addr) (c : Nat) (l : List Int) (m : Nat) (hm : m ≤ 65536) (hll : l.length ≤ 400000) (w : World) (hr : Kd.C (Kd.int .u8) w A l.length l) (hc : l.length ≤ c) (hb : ∀ x ∈ l, isByte x = true) :
    Calls Try.prog 58 #[.int .u8 3, .slice A l.length c, .int .i64 m] w (GetVPost w (getCol 3 l m)) := by
  have hmm := cway_look 3 (w.alloc (.map cwaysMap 3)) (b := w.heap.size) (heap_alloc_new w _)
  have hw1 : wayP 3 = .func (.func 137) #[] #[] := rfl
  have hw2 : wayG 3 = .func (.func 138) #[] #[] := rfl
  have hw3 : kindB 3 = true := rfl
  rw [hw1, hw2, hw3] at hmm
  clear hw1 hw2 hw3
  obtain ⟨W1, hW1⟩ : ∃ W, W = (w.alloc (.map cwaysMap 3)).alloc (.cells #[.func (.func 137) #[] #[], .func (.func 138) #[] #[]] 113) := ⟨_, rfl⟩
  have HBW := Aside0.mk (show Below w.heap.size w W1 by rw [hW1]; exact ((Below.refl _ _).alloc (Nat.le_refl _) _).alloc (by simp) _)
  have HG : Aside0 (W1.heap[w.heap.size + 1]? = some (.cells #[.func (.func 137) #[] #[], .func (.func 138) #[] #[]] 113 (0, 0))) := ⟨by rw [hW1]; have := heap_alloc_new (w.alloc (.map cwaysMap 3)) (.cells #[.func (.func 137) #[] #[], .func (.func 138) #[] #[]] 113); rwa [World.size_alloc] at this⟩
  have hr1 := Kd.C_below hr HBW.out
  have HR1 := Aside0.mk hr1
  obtain ⟨r, hR⟩ : ∃ r, r = getCol 3 l m := ⟨_, rfl⟩
  rw [← hR]
  unfold getCol at hR
  have hm0 : (0 : Int) ≤ (m : Int) := by omega
  have hm1 : (m : Int) ≤ 65536 := by omega
  have fin : ∀ (w' : World) (e : Int), Below W1.heap.size W1 w' → r = ([], e) → GetVPost w r (.returned (.tuple #[.slice none 0 0, .int .i64 e])) w' := fun w' e hb he => by subst he; exact getV_nil _ _ _ (below_then HBW.out HBW.out.size hb)
  have FIN := Aside0.mk fin
  clear fin
  by_cases h1 : l.length < (m + 7) / 8
  · rw [if_pos h1] at hR
    have M := Aside0.mk (take_short A c l m W1 (by omega) h1)
    have HRE := Aside0.mk hR
    rw [hW1] at M
    clear h1 hr hb hr1 hR
    go_enter Try.func58, Try.ntmps58
    go_wp2_with (first
      | (go_at_call 89; refine (cways_any _).mono ?_; rintro e w' ⟨rfl, rfl⟩)
      | (go_at_call 101; refine M.out.mono ?_; rintro e w1 ⟨rfl, rfl⟩))
    go_ret2
    exact FIN.out _ _ (by rw [hW1]; exact Below.refl _ _) HRE.out
  rw [if_neg h1] at hR
  have M0 := take_any A c l m W1 (by omega) (by omega) hr1 hc hb (by omega)
  by_cases h2 : loose l m = true
  · rw [if_pos h2] at hR
    rw [h2] at M0
    have M : Aside0 (Calls Try.prog 101 #[.slice A l.length c, .int .i64 m] W1 fun e w' => e = .returned (.tuple #[.slice none 0 0, .slice none 0 0, .int .i64 21]) ∧ Aside0 (Below W1.heap.size W1 w')) := ⟨M0.mono fun e w' h => by
      rcases h with ⟨_, h1, h2⟩ | ⟨h, _⟩
      · exact ⟨h1, ⟨h2⟩⟩
      · cases h⟩
    have HRE := Aside0.mk hR
    rw [hW1] at M FIN
    clear h1 h2 M0 hr hb hr1 hR HR1 HG HBW hW1
    go_enter Try.func58, Try.ntmps58
    go_wp2_with (first
      | (go_at_call 89; refine (cways_any _).mono ?_; rintro e w' ⟨rfl, rfl⟩)
      | (go_at_call 101; refine M.out.mono ?_; rintro e w1 ⟨rfl, HB⟩))
    go_ret2
    exact FIN.out _ _ HB.out HRE.out
  rw [if_neg h2] at hR
  rw [Bool.not_eq_true] at h2
  rw [h2] at M0
  obtain ⟨R, hRR⟩ : ∃ R, R = l.drop ((m + 7) / 8) := ⟨_, rfl⟩
  rw [← hRR] at hR
  have hRl : R.length = l.length - (m + 7) / 8 := by rw [hRR, List.length_drop]
  have HRB : Aside0 (∀ x ∈ R, isByte x = true) := ⟨fun x hx => hb x (by rw [hRR] at hx; exact List.mem_of_mem_drop hx)⟩
  have hR4 : R.length ≤ 400000 := by omega
  have M : Aside0 (Calls Try.prog 101 #[.slice A l.length c, .int .i64 m] W1 fun e w' => ∃ A1 c1 A' c', e = .returned (.tuple #[.slice A1 m c1, .slice A' R.length c', .int .i64 0]) ∧ m ≤ c1 ∧ R.length ≤ c' ∧ Aside0 (Kd.C Kd.bool w' A1 m ((List.range m).map (bitAt l))) ∧ Aside0 (Kd.C (Kd.int .u8) w' A' R.length R) ∧ Aside0 (Below W1.heap.size W1 w')) := ⟨M0.mono fun e w' h => by
    rcases h with ⟨h, _⟩ | ⟨_, v, A', c', h1, h2, h3, h4⟩
    · cases h
    · obtain ⟨A1, n1, c1, e1, hn1, hc1, hC1⟩ := h3.sl'
      subst e1
      have hn2 : n1 = m := hn1.out.trans (by simp)
      subst hn2
      have h5 := h4 w' (Kd.C_below hr1 h3.b)
      rw [← hRR, ← hRl] at h5
      exact ⟨A1, c1, A', c', by rw [hRl]; exact h1, hc1, by rw [hRl]; exact h2, hC1, ⟨h5⟩, ⟨h3.b⟩⟩⟩
  have HRE := Aside0.mk hR
  obtain ⟨cn, hcn⟩ : ∃ cn, cn = cntF (bitAt l) m := ⟨_, rfl⟩
  have HCN := Aside0.mk hcn
  have hcm : cn ≤ m := by rw [hcn]; exact cnt_le _ _
  rw [← hcn] at HRE
  rw [hW1] at M FIN HG HBW
  clear h1 h2 M0 hr hb hr1 hR HR1 hW1 hRR hRl hcn
  go_enter Try.func58, Try.ntmps58
  go_wp2_with (first
    | (go_at_call 89; refine (cways_any _).mono ?_; rintro e w' ⟨rfl, rfl⟩)
    | (go_at_call 101; refine M.out.mono ?_; rintro e w2 ⟨A1, c1, A9, c9, rfl, hc1, hc9, HC1, HC9, HB2⟩))
  clear hmm M
  go_loop [13, 15, 48] (fun v13 v15 v48 => ∃ k : Nat, k ≤ m ∧ v48 = .int .i64 k ∧ v13 = .int .i64 (cntF (bitAt l) k)) (fun _ _ v48 => m - (intOf v48).toNat)
  case atStart => exact ⟨0, Nat.zero_le _, rfl, rfl⟩
  case round =>
    obtain ⟨k, hk, rfl, rfl⟩ := hrel
    by_cases hlt : k < m
    · have hkn : (k : Int) < (m : Int) := by omega
      obtain ⟨ad, e, hx⟩ := Kd.at_bool HC1.out (k : Int) (by omega) hkn
      cases e
      rw [Int.toNat_natCast, bits_rd l m k hlt] at hx
      have HS := Aside0.mk (cnt_succ (bitAt l) k)
      have hck := cnt_le (bitAt l) k
      obtain ⟨q, hq⟩ : ∃ q, q = bitAt l k := ⟨_, rfl⟩
      rw [← hq] at hx HS
      clear hq
      cases q with
      | true =>
        go_wp2
        go_round
        case rel => exact ⟨k + 1, by omega, by go_num, by rw [HS.out]; rfl⟩
        case measure => simp [intOf]; omega
      | false =>
        go_wp2
        go_round
        case rel => exact ⟨k + 1, by omega, by go_num, by rw [HS.out]; go_num⟩
        case measure => simp [intOf]; omega
    · obtain rfl : m = k := by omega
      rw [← HCN.out]
      have MG := Aside0.mk (getMarks_3 A9 c9 R cn w2 (by omega) hR4 HC9.out hc9 HRB.out)
      have ML := Aside0.mk (marks_len_eq 3 R cn HRB.out)
      obtain ⟨G, hG⟩ : ∃ G, G = getMarks 3 R cn := ⟨_, rfl⟩
      rw [← hG] at MG ML HRE
      clear hG
      have hg2 := (HB2.out.block _ (blk_lt HG.out)).trans HG.out
      have q2 : w2.cell? ⟨w.heap.size + 1, 1, none⟩ = some (.func (.func 138) #[] #[]) := cell_of_row _ _ _ _ _ _ hg2
      clear hg2 hlt hk
      obtain ⟨G1, G2⟩ := G
      dsimp only at ML HRE
      by_cases he : G2 = 0
      · subst he
        have HRE2 := Aside0.mk (show r = (merge (bitAt l) 0 m G1, 0) by rw [HRE.out, if_neg (by simp)])
        have hGl := ML.out rfl
        have HB3 := Aside0.mk (Below.refl w2.heap.size w2)
        go_wp2_with (first
          | (go_at_call 138; refine MG.out.mono ?_; rintro e w3 ⟨v3, rfl, hr3, hb3⟩; have HB3 := Aside0.mk (below_then HB2.out HB2.out.size hb3); have HBB := Aside0.mk (Below.refl w3.heap.size w3); have HC1b := Aside0.mk (Kd.C_below HC1.out hb3); obtain ⟨A4, c4, e4, hc4, hC4⟩ := Kd.R_reads hr3; subst e4; have HC4 := Aside0.mk hC4; clear hr3 hb3 hC4)
          | ((with_reducible refine gate_dst (N := 69) rfl ?_); refine Kd.R_make k39 w3.heap.size 39 rfl (N := 69) rfl 23 _ _ rfl (m : Int) rfl rfl Try.underlying23 (.agg #[(.int .u8 0), (.int .i64 0), (.string ⟨#[]⟩)]) 32 info39 rfl (by decide) (by omega) z39 (ok := fun _ => True) (okp := fun _ => True) (k39_mkM _ _ _ z39) (fun _ hk => hk) trivial (by omega) (by omega) HBB.out HBB.out.size ?_; intro v4 w4 ho hb hg hnew; have HO := Aside0.mk (Own.mk ho hb (Nat.le_trans HBB.out.size hg.size)); clear ho hb hg hnew; obtain ⟨A5, n5, c5, e5, hn5, hnc5, _⟩ := HO.out.sl'; have hn3 : m = n5 := (hn5.out.trans (by simp)).symm; subst e5; subst hn3; clear hn5))
        go_loopw [16, 18, 19, 72] (fun v16 v18 v19 v72 W => ∃ (k : Nat) (A6 : Option Addr) (c6 : Nat) (M : List S39), k ≤ m ∧ v72 = .int .i64 k ∧ v16 = .slice A6 M.length c6 ∧ M.length ≤ c6 ∧ Aside0 (M = G1.drop (cntF (bitAt l) k)) ∧ Aside0 (Kd.C k39 w3 A6 M.length M) ∧ Aside0 (Own k39 39 w3.heap.size w3 W (.slice A5 m c5) (outK (bitAt l) m G1 k))) (fun _ _ _ v72 _ => m - (intOf v72).toNat)
        case atStart => exact ⟨0, A4, c4, G1, Nat.zero_le _, rfl, by rw [hGl], hc4, ⟨by rw [cnt_zero]; rfl⟩, HC4, ⟨HO.out.of_cast (by rw [outK_zero, Int.toNat_natCast])⟩⟩
        case round =>
          clear HO HBB MG HC4
          obtain ⟨k, A6, c6, M, hk, rfl, rfl, hc6, HM, HC6, HO⟩ := hrel
          by_cases hlt : k < m
          · have hkn : (k : Int) < (m : Int) := by omega
            obtain ⟨ad, e, hx⟩ := Kd.at_bool (Kd.C_below HC1b.out HO.out.b) (k : Int) (by omega) hkn
            cases e
            rw [Int.toNat_natCast, bits_rd l m k hlt] at hx
            have HS := Aside0.mk (cnt_succ (bitAt l) k)
            obtain ⟨q, hq⟩ : ∃ q, q = bitAt l k := ⟨_, rfl⟩
            have HQ := Aside0.mk hq
            rw [← hq] at hx HS
            clear hq
            cases q with
            | true =>
              have HN := Aside0.mk (outK_nul (bitAt l) m G1 k hlt HQ.out.symm)
              go_wp2
              go_roundw
              case rel => exact ⟨k + 1, A6, c6, M, by omega, by go_num, rfl, hc6, ⟨by rw [HS.out]; exact HM.out⟩, HC6, ⟨HO.out.of_cast HN.out.symm⟩⟩
              case measure => simp [intOf]; omega
            | false =>
              have hcl := cnt_lt (bitAt l) k m hlt HQ.out.symm
              rw [← HCN.out] at hcl
              have hMl : 0 < M.length := by rw [HM.out, List.length_drop]; omega
              cases M with
              | nil => simp at hMl
              | cons x M =>
                have hgx : G1.getD (cntF (bitAt l) k) z39 = x := by
                  have h := HM.out
                  rw [List.drop_eq_getElem_cons (by omega)] at h
                  injection h with h1 h2
                  rw [h1, List.getD_eq_getElem?_getD, List.getElem?_eq_getElem (by omega)]
                  rfl
                have HMN : Aside0 (M = G1.drop (cntF (bitAt l) (k + 1))) := ⟨by
                  have h := HM.out
                  rw [List.drop_eq_getElem_cons (by omega)] at h
                  injection h with h1 h2
                  rw [h2, HS.out]; rfl⟩
                have HOV := Aside0.mk (outK_val (bitAt l) m G1 k hlt HQ.out.symm x hgx)
                have HOL := Aside0.mk (outK_length (bitAt l) m G1 k)
                clear hgx
                obtain ⟨a0, e6, x0, x1, x2⟩ := Own.val_in (Kd.C_below HC6.out HO.out.b)
                subst e6
                have hM1 : 0 < (x :: M).length := hMl
                obtain ⟨A7, kc1, kc2⟩ := cut_one39 a0 (x :: M).length c6 hMl hc6
                have HK2 := Aside0.mk (kc2 w3 x M HC6.out)
                have hlm : (x :: M).length = M.length + 1 := rfl
                rw [hlm] at hMl hM1 hc6 kc1 HK2 ⊢
                rw [Nat.add_sub_cancel] at kc1 HK2
                clear kc2 hlm hcl
                obtain ⟨g8, c8, e8, _, _, cells, hcs⟩ := Kd.R_form HO.out.r (by rw [outK_length]; omega)
                injection e8 with e81 e82 e83
                subst e81
                clear e82 e83
                obtain ⟨ad5, e7, y0, y1, y2⟩ := at_T39 (Kd.R_reads' HO.out.r).2.2 (k : Int) (by omega) (by rw [outK_length]; omega)
                cases e7
                rw [Int.toNat_natCast] at y0 y1 y2
                simp only [add_plain] at y0 y1 y2
                have z0 := blk_frozen hcs (k * 3)
                have z1 := blk_frozen hcs (k * 3 + 1)
                have z2 := blk_frozen hcs (k * 3 + 2)
                have hM2 : (0 : Int) < ((M.length + 1 : Nat) : Int) := by omega
                have hM3 : (0 : Int) < (M.length : Int) + 1 := by omega
                clear hcs
                go_wp2_with fail
                refine start_ (n := 10) (S := fun W' => W'.cell? a0 = some (.int .u8 x.f0) ∧ W'.cell? ⟨a0.block, a0.off + 1, none⟩ = some (.int .i64 x.f1) ∧ W'.cell? ⟨a0.block, a0.off + 2, none⟩ = some (.string x.f2)) (ds := [8]) #[false, false, false, false, false, false, false, false, false, false] (by kernel_rfl) rfl rfl (⟨x0, x1, x2⟩) (fun hHeld => ?_)
                refine with_tabW GC58.tab22 GC58.bits22 (fun HT_ HW_ => ?_)
                refine pure_ (i := 0) (N := some 79) (v := ?_) (a' := ?_) #[true, false, false, false, false, false, false, false, false, false] rfl rfl (any_of HT_.out (by kernel_rfl)) (fun _ _ _ h => h) (Or.inl ⟨by rfl, ?_⟩) ?_ ?_
                rotate_left
                · intro w'
                  go_simp
                  with_reducible rfl
                rotate_left
                · simp only [Act.put, List.setIfInBounds_toArray, List.set_cons_zero, List.set_cons_succ, i64_w, i32_w]
                  rfl
                refine pure_ (i := 1) (N := some 80) (v := ?_) (a' := ?_) #[true, true, false, false, false, false, false, false, false, false] rfl rfl (any_of HT_.out (by kernel_rfl)) (fun _ _ _ h => h) (Or.inl ⟨by rfl, ?_⟩) ?_ ?_
                rotate_left
                · intro w'
                  go_simp
                  with_reducible rfl
                rotate_left
                · simp only [Act.put, List.setIfInBounds_toArray, List.set_cons_zero, List.set_cons_succ, i64_w, i32_w]
                  rfl
                refine pure_ (i := 2) (N := some 81) (v := ?_) (a' := ?_) #[true, true, true, false, false, false, false, false, false, false] rfl rfl (any_of HT_.out (by kernel_rfl)) (fun _ _ _ h => h) (Or.inl ⟨by rfl, ?_⟩) ?_ ?_
                rotate_left
                · intro w'
                  go_simp
                  with_reducible rfl
                rotate_left
                · simp only [Act.put, List.setIfInBounds_toArray, List.set_cons_zero, List.set_cons_succ, i64_w, i32_w]
                  rfl
                refine pure_ (i := 3) (N := some 82) (v := ?_) (a' := ?_) #[true, true, true, true, false, false, false, false, false, false] rfl rfl (any_of HT_.out (by kernel_rfl)) (fun _ _ _ h => h) (Or.inl ⟨by rfl, ?_⟩) ?_ ?_
                rotate_left
                · intro w'
                  go_simp
                  with_reducible rfl
                rotate_left
                · simp only [Act.put, List.setIfInBounds_toArray, List.set_cons_zero, List.set_cons_succ, i64_w, i32_w]
                  rfl
                refine take_ (i := 4) (N := some 83) (v := ?_) (a' := ?_) #[true, true, true, true, true, false, false, false, false, false] rfl rfl (take_ofW HT_.out HW_.out (by kernel_rfl)) (fun _ _ _ h => h) (Or.inl ⟨by rfl, ?_⟩) hHeld ?_ ?_
                rotate_left
                · intro w' s0
                  (try dsimp only at s0)
                  (try go_split_ands)
                  go_simp
                  with_reducible rfl
                rotate_left
                · simp only [Act.put, List.setIfInBounds_toArray, List.set_cons_zero, List.set_cons_succ, i64_w, i32_w]
                  rfl
                refine pure_ (i := 5) (N := some 84) (v := ?_) (a' := ?_) #[true, true, true, true, true, true, false, false, false, false] rfl rfl (any_of HT_.out (by kernel_rfl)) (fun _ _ _ h => h) (Or.inl ⟨by rfl, ?_⟩) ?_ ?_
                rotate_left
                · intro w'
                  go_simp
                  with_reducible rfl
                rotate_left
                · simp only [Act.put, List.setIfInBounds_toArray, List.set_cons_zero, List.set_cons_succ, i64_w, i32_w]
                  rfl
                refine pure_ (i := 6) (N := some 85) (v := ?_) (a' := ?_) #[true, true, true, true, true, true, true, false, false, false] rfl rfl (any_of HT_.out (by kernel_rfl)) (fun _ _ _ h => h) (Or.inl ⟨by rfl, ?_⟩) ?_ ?_
                rotate_left
                · intro w'
                  go_simp
                  with_reducible rfl
                rotate_left
                · simp only [Act.put, List.setIfInBounds_toArray, List.set_cons_zero, List.set_cons_succ, i64_w, i32_w]
                  rfl
                refine pure_ (i := 7) (N := some 86) (v := ?_) (a' := ?_) #[true, true, true, true, true, true, true, true, false, false] rfl rfl (any_of HT_.out (by kernel_rfl)) (fun _ _ _ h => h) (Or.inl ⟨by rfl, ?_⟩) ?_ ?_
                rotate_left
                · intro w'
                  go_simp
                  with_reducible rfl
                rotate_left
                · simp only [Act.put, List.setIfInBounds_toArray, List.set_cons_zero, List.set_cons_succ, i64_w, i32_w]
                  rfl
                refine last_ (i := 8) (N := none) #[true, true, true, true, true, true, true, true, true, false] rfl rfl (one_of HT_.out (by kernel_rfl)) (by decide) (fun K hK => ?_)
                refine skip_ (w1 := ?_) (by rfl) rfl ?_ ?_
                rotate_left
                · go_simp
                  rfl
                refine hK.out _ _ ?_
                clear hK K
                refine pure_ (i := 9) (N := some 16) (v := ?_) (a' := ?_) #[true, true, true, true, true, true, true, true, true, true] rfl rfl (any_of HT_.out (by kernel_rfl)) (fun _ _ _ h => h) (Or.inl ⟨by rfl, ?_⟩) ?_ ?_
                rotate_left
                · intro w'
                  go_simp
                  with_reducible rfl
                rotate_left
                · simp only [Act.put, List.setIfInBounds_toArray, List.set_cons_zero, List.set_cons_succ, i64_w, i32_w]
                  rfl
                refine done_ (done_of HT_.out (by kernel_rfl)) ?_
                go_wp2_with fail
                have HO7 := Aside0.mk ((Own.putV HO.out k (by rw [HOL.out]; exact hlt) x).drew)
                go_roundw
                case rel => exact ⟨k + 1, A7, c6 - 1, M, by omega, by go_num, rfl, by omega, HMN, HK2, ⟨HO7.out.of_cast HOV.out⟩⟩
                case measure => simp [intOf]; omega
          · obtain rfl : m = k := by omega
            go_wp2
            go_ret2
            have HO8 := HO.out.of_cast (outK_all (bitAt l) m G1)
            rw [HRE2.out]
            exact ⟨_, rfl, Kd.R_lower HO8.r (Nat.le_trans HBW.out.size (by have := HB3.out.size; exact this)), below_then HBW.out HBW.out.size (below_then HB3.out HB3.out.size HO8.b)⟩
      · have HRE2 := Aside0.mk (show r = ([], G2) by rw [HRE.out, if_pos he])
        have q0 : (G2 == 0) = false := beq_eq_false_iff_ne.mpr he
        have q1 : (G2 != 0) = true := by simp [bne, q0]
        clear he
        go_wp2_with (go_at_call 138; refine MG.out.mono ?_; rintro e w3 ⟨v3, rfl, hr3, hb3⟩; have HB3 := Aside0.mk (below_then HB2.out HB2.out.size hb3); clear hr3 hb3)
        go_ret2
        exact FIN.out _ _ HB3.out HRE2.out
set_option maxRecDepth 100000 in
set_option maxHeartbeats 3200000 in
theorem column_Get_bad (kind : Int) (A : Option Addr) (n c : Nat) (m : Int) (w : World) (h : ¬ (kindB kind = true ∧ 0 ≤ m ∧ m ≤ 65536)) :
    Calls Try.prog 58 #[.int .u8 kind, .slice A n c, .int .i64 m] w (GetVPost w ([], 1)) := by
  have hmm := cway_look kind (w.alloc (.map cwaysMap 3)) (b := w.heap.size) (heap_alloc_new w _)
  have hsp := fun (w : World) (a : Addr) (m : Mode) => run_store Try.prog w a (wayP kind) m (wayP_one kind)
  have hsg := fun (w : World) (a : Addr) (m : Mode) => run_store Try.prog w a (wayG kind) m (wayG_one kind)
  have HB := Aside0.mk (show Below w.heap.size w ((w.alloc (.map cwaysMap 3)).alloc (.cells #[wayP kind, wayG kind] 113)) from ((Below.refl _ _).alloc (Nat.le_refl _) _).alloc (by simp) _)
  cases hk : kindB kind with
  | false =>
    rw [hk] at hmm
    clear hk h
    go_enter Try.func58, Try.ntmps58
    go_wp2_with (go_at_call 89; refine (cways_any _).mono ?_; rintro e w' ⟨rfl, rfl⟩)
    go_ret2
    exact getV_nil _ _ _ HB.out
  | true =>
    rw [hk] at hmm h
    by_cases h0 : m < 0
    · clear h hk
      go_enter Try.func58, Try.ntmps58
      go_wp2_with (go_at_call 89; refine (cways_any _).mono ?_; rintro e w' ⟨rfl, rfl⟩)
      go_ret2
      exact getV_nil _ _ _ HB.out
    · have h1 : 65536 < m := by
        apply Classical.byContradiction
        intro h1
        exact h ⟨rfl, by omega, by omega⟩
      have h2 : 0 ≤ m := by omega
      clear h hk h0
      go_enter Try.func58, Try.ntmps58
      go_wp2_with (go_at_call 89; refine (cways_any _).mono ?_; rintro e w' ⟨rfl, rfl⟩)
      go_ret2
      exact getV_nil _ _ _ HB.out
def column_Get.f (a0 : Int) (l : List Int) (n : Int) : Option (List S39 × Int) := if l.length ≤ 400000 ∧ l.all isByte = true then some (getColI a0 l n) else none
theorem column_Get.calls (a0 : Int) (A1 : Option Addr) (c1 : Nat) (l1 : List Int) (a2 : Int) (r1 : List S39) (r2 : Int) (w : World) (hr1 : Kd.C (Kd.int .u8) w A1 l1.length l1) (hc1 : l1.length ≤ c1) (h : column_Get.f a0 l1 a2 = some (r1, r2)) :
    Calls Try.prog 58 #[.int .u8 a0, .slice A1 l1.length c1, .int .i64 a2] w fun e w' => ∃ v0_ : Value, e = .returned (.tuple #[v0_, .int .i64 r2]) ∧ Kd.R k39 39 w' w.heap.size (fun _ => True) v0_ r1 ∧ Below w.heap.size w w' := by
  unfold column_Get.f at h
  split at h
  · rename_i hc
    injection h with h
    obtain ⟨hl, hb⟩ := hc
    rw [List.all_eq_true] at hb
    unfold getColI at h
    by_cases hg : kindB a0 = true ∧ 0 ≤ a2 ∧ a2 ≤ 65536
    · rw [if_pos hg] at h
      obtain ⟨hk, h0, h6⟩ := hg
      obtain ⟨m, rfl⟩ := Int.eq_ofNat_of_zero_le h0
      rw [Int.toNat_natCast] at h
      have hk3 : a0 = 1 ∨ a0 = 2 ∨ a0 = 3 := by unfold kindB at hk; simp only [Bool.and_eq_true, decide_eq_true_eq] at hk; omega
      rcases hk3 with rfl | rfl | rfl
      · have := column_Get_1 A1 c1 l1 m (by omega) hl w hr1 hc1 hb
        rw [h] at this
        exact this
      · have := column_Get_2 A1 c1 l1 m (by omega) hl w hr1 hc1 hb
        rw [h] at this
        exact this
      · have := column_Get_3 A1 c1 l1 m (by omega) hl w hr1 hc1 hb
        rw [h] at this
        exact this
    · rw [if_neg hg] at h
      injection h with h1 h2
      subst h1 h2
      exact column_Get_bad a0 A1 l1.length c1 a2 w hg
  · cases h
end Go.Proofs.Ytlmcefhpnfoahaa.P
end

section
namespace Go.Proofs.Ytlmcefhpnfoahaa.P
open Go.RowKit Go.Proofs.YtlmcefhpnfoahaaW.PrintWords Go.Proofs.YtlmcefhpnfoahaaW.PrintLast Go.Proofs.YtlmcefhpnfoahaaW.PrintMore
set_option linter.unusedVariables false
set_option linter.unusedSimpArgs false

def exC : List S39 := [⟨3, 0, ⟨#[97]⟩⟩, ⟨3, 0, ⟨#[98]⟩⟩, ⟨3, 0, ⟨#[97]⟩⟩, ⟨0, 0, ⟨#[]⟩⟩]
def exD : List S39 := [⟨2, 10, ⟨#[]⟩⟩, ⟨0, 0, ⟨#[]⟩⟩, ⟨2, 20, ⟨#[]⟩⟩]
theorem exCPut : column_Put.f 3 exC = some ([8, 2, 1, 97, 1, 98, 0, 1, 0], 0) := by decide +kernel
theorem exCGet : column_Get.f 2 [2, 1, 20, 1, 0] 3 = some (exD, 0) := by kernel_rfl
theorem exCStr : strOfNums [8, 2, 1, 97, 1, 98, 0, 1, 0] = ⟨#[8, 2, 1, 97, 1, 98, 0, 1, 0]⟩ := rfl
def tidelinelaw06_puts.f : Option Bool := some true
set_option maxRecDepth 100000 in
set_option maxHeartbeats 1600000 in
theorem tidelinelaw06_puts.calls (r : Bool) (w : World) (h : tidelinelaw06_puts.f = some r) :
    Calls Try.prog 57 #[] w fun e w' => e = .returned (.bool r) ∧ Below w.heap.size w w' := by
  obtain rfl : true = r := Option.some.inj h
  clear h
  obtain ⟨W1, hW1⟩ : ∃ W, W = ((w.alloc (.cells #[.int .u8 3, .int .i64 0, .string ⟨#[97]⟩] 39)).alloc (.cells #[.int .u8 3, .int .i64 0, .string ⟨#[98]⟩] 39)).alloc (.cells #[.int .u8 3, .int .i64 0, .string ⟨#[97]⟩, .int .u8 3, .int .i64 0, .string ⟨#[98]⟩, .int .u8 3, .int .i64 0, .string ⟨#[97]⟩, .int .u8 0, .int .i64 0, .string ⟨#[]⟩] 39) := ⟨_, rfl⟩
  have B1 : Aside0 (Below w.heap.size w W1) := ⟨by rw [hW1]; exact (((Below.refl _ _).alloc (Nat.le_refl _) _).alloc (by simp) _).alloc (by simp; omega) _⟩
  have L1 : Aside0 (Kd.C k39 W1 (some ⟨w.heap.size + 1 + 1, 0, none⟩) 4 exC) := ⟨by
    rw [hW1]
    have := lit_vals ((w.alloc (.cells #[.int .u8 3, .int .i64 0, .string ⟨#[97]⟩] 39)).alloc (.cells #[.int .u8 3, .int .i64 0, .string ⟨#[98]⟩] 39)) exC #[.int .u8 3, .int .i64 0, .string ⟨#[97]⟩, .int .u8 3, .int .i64 0, .string ⟨#[98]⟩, .int .u8 3, .int .i64 0, .string ⟨#[97]⟩, .int .u8 0, .int .i64 0, .string ⟨#[]⟩] rfl (by decide)
    rwa [World.size_alloc, World.size_alloc] at this⟩
  have P1 : Aside0 (Calls Try.prog 55 #[.int .u8 3, .slice (some ⟨w.heap.size + 1 + 1, 0, none⟩) 4 4] W1 fun e w' => ∃ v0_ : Value, e = .returned (.tuple #[v0_, .int .i64 0]) ∧ Own (Kd.int .u8) 5 w.heap.size w w' v0_ [8, 2, 1, 97, 1, 98, 0, 1, 0]) :=
    ⟨(column_Put.calls 3 _ 4 exC _ _ W1 L1.out (Nat.le_refl _) exCPut).mono fun e w' ⟨v, h1, h2, h3⟩ => ⟨v, h1, Own.made B1.out B1.out.size h2 h3⟩⟩
  have P2 : Aside0 (∀ (w3 : World) (v : Value), Own (Kd.int .u8) 5 w.heap.size w w3 v [8, 2, 1, 97, 1, 98, 0, 1, 0] → Calls Try.prog 58 #[.int .u8 2, .slice (some ⟨w3.heap.size, 0, none⟩) 5 5, .int .i64 3] (w3.alloc (.cells #[.int .u8 2, .int .u8 1, .int .u8 20, .int .u8 1, .int .u8 0] 5)) fun e w' => ∃ (g : Nat) (c : Nat), e = .returned (.tuple #[.slice (some ⟨g, 0, none⟩) 3 c, .int .i64 0]) ∧ Aside0 (Own (Kd.int .u8) 5 w.heap.size w w' v [8, 2, 1, 97, 1, 98, 0, 1, 0]) ∧ (Aside0 (Kd.C k39 w' (some ⟨g, 0, none⟩) 3 exD))) := ⟨fun w3 v hO =>
    (column_Get.calls 2 _ 5 [2, 1, 20, 1, 0] 3 _ _ _ (lit_bytes w3 [2, 1, 20, 1, 0] _ rfl (by decide)) (Nat.le_refl _) exCGet).mono fun e w' ⟨v1, h1, h2, h3⟩ => by
      obtain ⟨g, c, hv, _, _, _⟩ := Kd.R_form h2 (by decide)
      subst hv
      exact ⟨g, c, h1, ⟨(hO.alloc _).step h3⟩, ⟨(Kd.R_reads' h2).2.2⟩⟩⟩
  rw [hW1] at P1
  clear hW1
  go_enter Try.func57, Try.ntmps57
  go_wp2_with (first
    | (go_at_call 55; refine P1.out.mono ?_; rintro e w3 ⟨v3, rfl, ho3⟩; have HO3 := Aside0.mk ho3; clear ho3)
    | (go_at_call 58; refine (P2.out w3 v3 HO3.out).mono ?_; rintro e w4 ⟨g4, c4, rfl, HO4, HC4⟩
       obtain ⟨A5, n5, c5, e5, hn5, hc5, hC5⟩ := HO4.out.sl'
       subst e5
       obtain rfl : n5 = 9 := hn5.out
       have kst := HO4.out.str
       rw [exCStr] at kst
       obtain ⟨ad, e6, x00, x01, x02⟩ := at_T39 HC4.out 0 (by decide) (by decide)
       cases e6
       obtain ⟨ad, e6, x10, x11, x12⟩ := at_T39 HC4.out 1 (by decide) (by decide)
       cases e6
       obtain ⟨ad, e6, x20, x21, x22⟩ := at_T39 HC4.out 2 (by decide) (by decide)
       cases e6
       change w4.cell? ⟨g4, 1, none⟩ = some (.int .i64 10) at x01
       change w4.cell? ⟨g4, 3, none⟩ = some (.int .u8 0) at x10
       change w4.cell? ⟨g4, 4, none⟩ = some (.int .i64 0) at x11
       change w4.cell? ⟨g4, 5, none⟩ = some (.string ⟨#[]⟩) at x12
       change w4.cell? ⟨g4, 6, none⟩ = some (.int .u8 2) at x20
       change w4.cell? ⟨g4, 7, none⟩ = some (.int .i64 20) at x21
       change w4.cell? ⟨g4, 8, none⟩ = some (.string ⟨#[]⟩) at x22
       clear x00 x02))
  go_ret
  exact ⟨rfl, HO4.out.b⟩
end Go.Proofs.Ytlmcefhpnfoahaa.P
end

section
namespace Go.Proofs.Ytlmcefhpnfoahaa.P
open Go
def headNums : List Nat := [104, 97, 114, 110, 101, 115, 115, 32, 52, 99, 52, 100, 50, 98, 52, 55, 56, 54, 57, 48, 100, 97, 50, 98, 56, 98, 101, 57, 48, 50, 100, 101, 55, 57, 54, 57, 97, 53, 53, 97, 101, 49, 101, 50, 48, 97, 57, 101, 101, 49, 97, 54, 49, 51, 50, 100, 102, 101, 50, 51, 48, 50, 52, 57, 101, 101, 55, 57, 49, 50, 56, 97, 32, 99, 117, 116, 32, 97, 116, 32, 116, 105, 100, 101, 108, 105, 110, 101, 47, 116, 105, 100, 101, 108, 105, 110, 101, 108, 97, 119, 48, 51, 46, 75, 101, 121, 65, 112, 112, 101, 110, 100, 115, 32, 116, 105, 100, 101, 108, 105, 110, 101, 47, 116, 105, 100, 101, 108, 105, 110, 101, 108, 97, 119, 48, 51, 46, 75, 101, 121, 79, 114, 100, 101, 114, 115, 32, 116, 105, 100, 101, 108, 105, 110, 101, 47, 116, 105, 100, 101, 108, 105, 110, 101, 108, 97, 119, 48, 51, 46, 75, 101, 121, 66, 97, 99, 107, 32, 116, 105, 100, 101, 108, 105, 110, 101, 47, 116, 105, 100, 101, 108, 105, 110, 101, 108, 97, 119, 48, 51, 46, 75, 101, 121, 75, 110, 111, 119, 110, 32, 116, 105, 100, 101, 108, 105, 110, 101, 47, 116, 105, 100, 101, 108, 105, 110, 101, 108, 97, 119, 48, 51, 46, 75, 101, 121, 80, 97, 114, 115, 101, 115, 32, 116, 105, 100, 101, 108, 105, 110, 101, 47, 116, 105, 100, 101, 108, 105, 110, 101, 108, 97, 119, 48, 51, 46, 75, 101, 121, 80, 114, 101, 102, 105, 120, 32, 116, 105, 100, 101, 108, 105, 110, 101, 47, 116, 105, 100, 101, 108, 105, 110, 101, 108, 97, 119, 48, 55, 46, 83, 101, 103, 109, 101, 110, 116, 67, 117, 116, 115, 32, 116, 105, 100, 101, 108, 105, 110, 101, 47, 116, 105, 100, 101, 108, 105, 110, 101, 108, 97, 119, 48, 52, 46, 82, 111, 119, 80, 117, 116, 115, 32, 116, 105, 100, 101, 108, 105, 110, 101, 47, 116, 105, 100, 101, 108, 105, 110, 101, 108, 97, 119, 48, 52, 46, 82, 111, 119, 71, 101, 116, 115, 32, 116, 105, 100, 101, 108, 105, 110, 101, 47, 116, 105, 100, 101, 108, 105, 110, 101, 108, 97, 119, 48, 55, 46, 83, 101, 103, 109, 101, 110, 116, 75, 110, 111, 119, 110, 32, 116, 105, 100, 101, 108, 105, 110, 101, 47, 116, 105, 100, 101, 108, 105, 110, 101, 108, 97, 119, 48, 52, 46, 82, 111, 119, 66, 97, 99, 107, 32, 116, 105, 100, 101, 108, 105, 110, 101, 47, 116, 105, 100, 101, 108, 105, 110, 101, 108, 97, 119, 48, 52, 46, 82, 111, 119, 65, 112, 97, 114, 116, 32, 116, 105, 100, 101, 108, 105, 110, 101, 47, 116, 105, 100, 101, 108, 105, 110, 101, 108, 97, 119, 48, 52, 46, 82, 111, 119, 83, 105, 122, 101, 115, 32, 116, 105, 100, 101, 108, 105, 110, 101, 47, 116, 105, 100, 101, 108, 105, 110, 101, 108, 97, 119, 48, 52, 46, 82, 111, 119, 75, 110, 111, 119, 110, 32, 116, 105, 100, 101, 108, 105, 110, 101, 47, 116, 105, 100, 101, 108, 105, 110, 101, 108, 97, 119, 48, 54, 46, 67, 111, 108, 117, 109, 110, 80, 117, 116, 115, 32, 116, 105, 100, 101, 108, 105, 110, 101, 47, 116, 105, 100, 101, 108, 105, 110, 101, 108, 97, 119, 48, 54, 46, 67, 111, 108, 117, 109, 110, 71, 101, 116, 115, 32, 116, 105, 100, 101, 108, 105, 110, 101, 47, 116, 105, 100, 101, 108, 105, 110, 101, 108, 97, 119, 48, 54, 46, 67, 111, 108, 117, 109, 110, 66, 97, 99, 107, 32, 116, 105, 100, 101, 108, 105, 110, 101, 47, 116, 105, 100, 101, 108, 105, 110, 101, 108, 97, 119, 48, 54, 46, 67, 111, 108, 117, 109, 110, 65, 112, 97, 114, 116, 32, 116, 105, 100, 101, 108, 105, 110, 101, 47, 116, 105, 100, 101, 108, 105, 110, 101, 108, 97, 119, 48, 54, 46, 67, 111, 108, 117, 109, 110, 83, 109, 97, 108, 108, 32, 116, 105, 100, 101, 108, 105, 110, 101, 47, 116, 105, 100, 101, 108, 105, 110, 101, 108, 97, 119, 48, 54, 46, 67, 111, 108, 117, 109, 110, 66, 111, 117, 110, 100, 115, 32, 116, 105, 100, 101, 108, 105, 110, 101, 47, 116, 105, 100, 101, 108, 105, 110, 101, 108, 97, 119, 48, 54, 46, 67, 111, 108, 117, 109, 110, 76, 105, 101, 115, 32, 116, 105, 100, 101, 108, 105, 110, 101, 47, 116, 105, 100, 101, 108, 105, 110, 101, 108, 97, 119, 48, 54, 46, 67, 111, 108, 117, 109, 110, 75, 110, 111, 119, 110, 32, 116, 105, 100, 101, 108, 105, 110, 101, 47, 116, 105, 100, 101, 108, 105, 110, 101, 108, 97, 119, 48, 55, 46, 83, 101, 103, 109, 101, 110, 116, 77, 97, 107, 101, 115, 32, 116, 105, 100, 101, 108, 105, 110, 101, 47, 116, 105, 100, 101, 108, 105, 110, 101, 108, 97, 119, 48, 55, 46, 83, 101, 103, 109, 101, 110, 116, 79, 112, 101, 110, 115, 32, 116, 105, 100, 101, 108, 105, 110, 101, 47, 116, 105, 100, 101, 108, 105, 110, 101, 108, 97, 119, 48, 55, 46, 83, 101, 103, 109, 101, 110, 116, 66, 97, 99, 107, 32, 116, 105, 100, 101, 108, 105, 110, 101, 47, 116, 105, 100, 101, 108, 105, 110, 101, 108, 97, 119, 48, 55, 46, 83, 101, 103, 109, 101, 110, 116, 66, 111, 117, 110, 100, 115]
theorem head_text : Try.prog.initOrder = "harness 4c4d2b478690da2b8be902de7969a55ae1e20a9ee1a6132dfe230249ee79128a cut at tideline/tidelinelaw03.KeyAppends tideline/tidelinelaw03.KeyOrders tideline/tidelinelaw03.KeyBack tideline/tidelinelaw03.KeyKnown tideline/tidelinelaw03.KeyParses tideline/tidelinelaw03.KeyPrefix tideline/tidelinelaw07.SegmentCuts tideline/tidelinelaw04.RowPuts tideline/tidelinelaw04.RowGets tideline/tidelinelaw07.SegmentKnown tideline/tidelinelaw04.RowBack tideline/tidelinelaw04.RowApart tideline/tidelinelaw04.RowSizes tideline/tidelinelaw04.RowKnown tideline/tidelinelaw06.ColumnPuts tideline/tidelinelaw06.ColumnGets tideline/tidelinelaw06.ColumnBack tideline/tidelinelaw06.ColumnApart tideline/tidelinelaw06.ColumnSmall tideline/tidelinelaw06.ColumnBounds tideline/tidelinelaw06.ColumnLies tideline/tidelinelaw06.ColumnKnown tideline/tidelinelaw07.SegmentMakes tideline/tidelinelaw07.SegmentOpens tideline/tidelinelaw07.SegmentBack tideline/tidelinelaw07.SegmentBounds" := by kernel_rfl
set_option maxRecDepth 100000 in
theorem head_lit : "harness 4c4d2b478690da2b8be902de7969a55ae1e20a9ee1a6132dfe230249ee79128a cut at tideline/tidelinelaw03.KeyAppends tideline/tidelinelaw03.KeyOrders tideline/tidelinelaw03.KeyBack tideline/tidelinelaw03.KeyKnown tideline/tidelinelaw03.KeyParses tideline/tidelinelaw03.KeyPrefix tideline/tidelinelaw07.SegmentCuts tideline/tidelinelaw04.RowPuts tideline/tidelinelaw04.RowGets tideline/tidelinelaw07.SegmentKnown tideline/tidelinelaw04.RowBack tideline/tidelinelaw04.RowApart tideline/tidelinelaw04.RowSizes tideline/tidelinelaw04.RowKnown tideline/tidelinelaw06.ColumnPuts tideline/tidelinelaw06.ColumnGets tideline/tidelinelaw06.ColumnBack tideline/tidelinelaw06.ColumnApart tideline/tidelinelaw06.ColumnSmall tideline/tidelinelaw06.ColumnBounds tideline/tidelinelaw06.ColumnLies tideline/tidelinelaw06.ColumnKnown tideline/tidelinelaw07.SegmentMakes tideline/tidelinelaw07.SegmentOpens tideline/tidelinelaw07.SegmentBack tideline/tidelinelaw07.SegmentBounds" = String.ofList (headNums.map Char.ofNat) := by kernel_rfl
theorem head_list : Try.prog.initOrder.toList = headNums.map Char.ofNat := by rw [head_text, head_lit, String.toList_ofList]
set_option maxRecDepth 100000 in
theorem head_cut : (behindMainWord (wordsSigns (headNums.map Char.ofNat))).head? = some "cut".toList := by kernel_rfl
theorem head_words : ∃ rest, behindMainWord (wordsSigns Try.prog.initOrder.toList) = "cut".toList :: rest := by
  rw [head_list]
  have h := head_cut
  cases hw : behindMainWord (wordsSigns (headNums.map Char.ofNat)) with
  | nil => rw [hw] at h; cases h
  | cons a r => rw [hw] at h; injection h with h; exact ⟨r, by rw [h]⟩
theorem strip_cut (rest : List (List Char)) : stripLifts liftWords ("cut".toList :: rest) = ([], "cut".toList :: rest) := by kernel_rfl
theorem cut_carried : ("cut".toList == "carried".toList) = false := by kernel_rfl
theorem cut_gc : ("cut".toList == "gc".toList) = false := by kernel_rfl
theorem cut_spec : ("cut".toList == "spec".toList) = false := by kernel_rfl
theorem cut_cut : ("cut".toList == "cut".toList) = true := by kernel_rfl
theorem fact_stops : (Try.prog.stops == []) = true := by kernel_rfl
theorem fact_stopKnobs : (Try.prog.stopKnobs == []) = true := by kernel_rfl
theorem fact_mapsRowed : mapsRowed Try.prog = true := by kernel_rfl
theorem fact_plainKeys : Try.prog.plainKeys = true := by kernel_rfl
theorem fact_stopsHeard : Try.prog.stopsHeard = true := by kernel_rfl
theorem fact_laidOut : laidOutB Try.prog = true := by kernel_rfl
theorem fact_laysLater : Try.prog.laysLater = false := by kernel_rfl
theorem fact_door : Try.prog.doorFits [] = true := by kernel_rfl
/-- The functions without a body. -/
def bare : List String := ["main.main", "gosem.cut", "internal/bytealg.Compare", "(runtime.boundsError).Error", "(runtime.boundsError).RuntimeError", "(runtime.errorString).Error", "(runtime.errorString).RuntimeError", "(runtime.plainError).Error", "(runtime.plainError).RuntimeError", "(runtime.errorAddressString).Error", "(runtime.errorAddressString).RuntimeError", "(*runtime.TypeAssertionError).Error", "(*runtime.TypeAssertionError).RuntimeError", "(*runtime.PanicNilError).Error", "(*runtime.PanicNilError).RuntimeError", "(*internal/abi.Type).Align", "(internal/runtime/maps.unhashableTypeError).Error", "(internal/runtime/maps.unhashableTypeError).RuntimeError", "(tideline/api.Errno).Error", "(internal/abi.Kind).String"]
theorem bare_eq : (Try.prog.funcs.toList.filter (fun fn => fn.body.isNone)).map (fun fn => fn.name) = bare := by kernel_rfl
def reflName (s : String) : Bool := opensWith (nameBytes "reflect.") (nameBytes s) || opensWith (nameBytes "(reflect.") (nameBytes s) || opensWith (nameBytes "(*reflect.") (nameBytes s)
theorem bare0 : reflName "main.main" = false := by kernel_rfl
theorem bare1 : reflName "gosem.cut" = false := by kernel_rfl
theorem bare2 : reflName "internal/bytealg.Compare" = false := by kernel_rfl
theorem bare3 : reflName "(runtime.boundsError).Error" = false := by kernel_rfl
theorem bare4 : reflName "(runtime.boundsError).RuntimeError" = false := by kernel_rfl
theorem bare5 : reflName "(runtime.errorString).Error" = false := by kernel_rfl
theorem bare6 : reflName "(runtime.errorString).RuntimeError" = false := by kernel_rfl
theorem bare7 : reflName "(runtime.plainError).Error" = false := by kernel_rfl
theorem bare8 : reflName "(runtime.plainError).RuntimeError" = false := by kernel_rfl
theorem bare9 : reflName "(runtime.errorAddressString).Error" = false := by kernel_rfl
theorem bare10 : reflName "(runtime.errorAddressString).RuntimeError" = false := by kernel_rfl
theorem bare11 : reflName "(*runtime.TypeAssertionError).Error" = false := by kernel_rfl
theorem bare12 : reflName "(*runtime.TypeAssertionError).RuntimeError" = false := by kernel_rfl
theorem bare13 : reflName "(*runtime.PanicNilError).Error" = false := by kernel_rfl
theorem bare14 : reflName "(*runtime.PanicNilError).RuntimeError" = false := by kernel_rfl
theorem bare15 : reflName "(*internal/abi.Type).Align" = false := by kernel_rfl
theorem bare16 : reflName "(internal/runtime/maps.unhashableTypeError).Error" = false := by kernel_rfl
theorem bare17 : reflName "(internal/runtime/maps.unhashableTypeError).RuntimeError" = false := by kernel_rfl
theorem bare18 : reflName "(tideline/api.Errno).Error" = false := by kernel_rfl
theorem bare19 : reflName "(internal/abi.Kind).String" = false := by kernel_rfl
theorem bare_no : bare.any reflName = false := by
  unfold bare
  simp only [List.any_cons, List.any_nil, bare0, bare1, bare2, bare3, bare4, bare5, bare6, bare7, bare8, bare9, bare10, bare11, bare12, bare13, bare14, bare15, bare16, bare17, bare18, bare19, Bool.or_false]
theorem any_filter_map (l : List Func) (p : Func → Bool) (q : String → Bool) : (l.any fun fn => p fn && q fn.name) = ((l.filter p).map (fun fn => fn.name)).any q := by
  induction l with
  | nil => rfl
  | cons a r ih =>
    rw [List.any_cons, ih, List.filter_cons]
    cases p a <;> simp
theorem fact_reflect : Try.prog.bearsReflect = false := by
  show (Try.prog.funcs.toList.any fun fn => fn.body.isNone && reflName fn.name) = false
  rw [any_filter_map, bare_eq, bare_no]
theorem mayEnter_of (P : Program) (rest : List (List Char)) (h : behindMainWord (wordsSigns P.initOrder.toList) = "cut".toList :: rest) (h1 : P.laysLater = false) (h2 : P.bearsReflect = false) (h3 : P.doorFits [] = true) : P.mayEnter = true := by
  unfold Program.mayEnter
  rw [h]
  dsimp only
  rw [strip_cut, h1, h2, h3]
  simp only [List.head?_cons, Option.some_beq_some, cut_cut, Bool.not_false, Bool.or_true, Bool.and_true, List.contains_nil]
theorem headLifts_of (P : Program) (rest : List (List Char)) (h : behindMainWord (wordsSigns P.initOrder.toList) = "cut".toList :: rest) : P.headLifts = [] := by
  unfold Program.headLifts
  rw [h, strip_cut]
  simp only [List.head?_cons, Option.some_beq_some, cut_cut, if_true]
theorem liftsFinal_of (P : Program) (rest : List (List Char)) (h : behindMainWord (wordsSigns P.initOrder.toList) = "cut".toList :: rest) : P.liftsFinal = false := by
  unfold Program.liftsFinal
  rw [h, headLifts_of P rest h]
  simp only [List.head?_cons, Option.some_beq_some, cut_carried, Bool.false_and, List.contains_nil, Bool.or_false]
theorem make_of (P : Program) (rest : List (List Char)) (h : behindMainWord (wordsSigns P.initOrder.toList) = "cut".toList :: rest) : P.make = some .cut := by
  unfold Program.make
  rw [h]
  simp only [cut_gc, cut_spec, cut_cut, Bool.or_false, Bool.true_or, Bool.false_eq_true, if_false, if_true]
theorem joined_of (P : Program) (f : FuncId) (fn : Func) (s : ChangeSpec) (c : OpenClaim) (h0 : c.wf (OpenSpec.ofChange s) = true) (h1 : laidOutB P = true) (h2 : mapsRowed P = true) (h3 : fn.params.all (P.readableRec ·) = true) (h4 : namedTie P c.named s.vars = true) (h5 : (c.stops == []) = true) (h6 : (P.stops == []) = true) (h7 : (c.knobs == []) = true) (h8 : (P.stopKnobs == []) = true)
    (h9 : (c.inPlace == P.inPlace f) = true) (h10 : (c.unfollowed == P.unfollowed f) = true) (h11 : (c.recurses == P.recurses f) = true) (h12 : (c.named == P.varsNamed f) = true) (h13 : (c.maps == (fn.params.toList ++ s.plain.varTypes P).any (P.mapsRec ·)) = true) (h14 : (c.ifaces == (fn.params.toList ++ s.plain.varTypes P).any (P.ifacesRec ·)) = true) (h15 : (c.mapsOut == P.mapsAmong fn.resultTypes.toList) = true)
    (h16 : (c.loops == (fn.params.toList ++ s.plain.varTypes P).any (P.loopsFrom ·)) = true) (h17 : (c.wideKeys == (fn.params.toList ++ s.plain.varTypes P ++ fn.resultTypes.toList).any (P.wideKeysFrom ·)) = true) (h18 : s.vars.all (P.varReadable ·) = true) (h19 : fn.resultTypes.all (fun t => P.readableRec t && decide (t < P.types.size)) = true) (h20 : (c.ifacesOut == fn.resultTypes.toList.any (P.ifacesRec ·)) = true) (h21 : (c.loopsOut == fn.resultTypes.toList.any (P.loopsFrom ·)) = true)
    (h22 : (c.plainKeys == P.plainKeys) = (c.plainKeys == true)) (h23 : c.plainKeys = true) (h24 : c.shortTexts.isNone = true) (h25 : P.stopsHeard = true) (h26 : P.mayEnter = true) (h27 : (c.lifted == P.liftsFinal) = (c.lifted == false)) (h28 : c.lifted = false) (h29 : (P.make == some c.make) = true)
    (h30 : (c.kinds == (if c.domain.isEmpty then [] else fn.params.toList.map fun t => match P.underlying t with | some (.int k) => some k | _ => none)) = true) (h31 : (c.pinned == c.pinnedBy) = true) (h32 : (c.veiled == (fn.params.toList ++ s.plain.varTypes P ++ fn.resultTypes.toList).any (P.veiledRec ·)) = true) (h33 : c.veiledFits P fn.params.toList (fn.params.toList ++ s.plain.varTypes P ++ fn.resultTypes.toList) = true) : joinedFacts P f fn s c = true := by
  unfold joinedFacts
  rw [h0, h1, h2, h3, h4, h5, h6, h7, h8, h9, h10, h11, h12, h13, h14, h15, h16, h17, h18, h19, h20, h21, h22, h23, h24, h25, h26, h27, h28, h29, h31, h32, h33]
  simp only [Bool.true_and, Bool.and_true, beq_self_eq_true]
  exact h30
theorem fact_mayEnter : Try.prog.mayEnter = true := head_words.elim fun rest h => mayEnter_of Try.prog rest h fact_laysLater fact_reflect fact_door
theorem fact_liftsFinal : Try.prog.liftsFinal = false := head_words.elim fun rest h => liftsFinal_of Try.prog rest h
theorem fact_make : Try.prog.make = some .cut := head_words.elim fun rest h => make_of Try.prog rest h
end Go.Proofs.Ytlmcefhpnfoahaa.P
end

section
namespace Go.Proofs.Ytlmcefhpnfoahaa.P
open Go.RowKit Go.Proofs.YtlmcefhpnfoahaaW.PrintWords Go.Proofs.YtlmcefhpnfoahaaW.PrintLast Go.Proofs.YtlmcefhpnfoahaaW.PrintMore
attribute [local go_sem] max2_int min2_int max_two min_two max_three min_three max_four min_four   -- for this text's walks alone
set_option linter.unusedVariables false
set_option linter.unusedSimpArgs false

def tidelinelaw06_long.l0 : Nat → List (S39) → Int → Option (Bool)
  | 0, _, _ => none
  | k + 1, x0, x3 => if x3 < (x0.length : Int) then (if 0 ≤ x3 then (if (((rd_T39 x0 x3).f2).size : Int) > 300 then (some true) else (tidelinelaw06_long.l0 k x0 (wrap64 (x3 + 1)))) else (none)) else (some false)
def tidelinelaw06_long.f (k : Nat) (l0 : List (S39)) : Option (Bool) := if (l0.length : Int) > 500 then (some true) else (tidelinelaw06_long.l0 k l0 0)
set_option maxHeartbeats 8000000 in
set_option maxRecDepth 100000 in
theorem tidelinelaw06_long.calls (k : Nat) (A0 : Option Addr) (c0 : Nat) (l0 : List (S39)) (r : Bool) (w : World) (hr0 : Kd.C k39 w A0 l0.length l0) (hc0 : l0.length ≤ c0) (h : tidelinelaw06_long.f k l0 = some r) :
    Calls Try.prog 54 #[.slice A0 l0.length c0] w fun e w' => e = .returned (.bool r) ∧ Drawn0 w w' := by
  have HR0 := Aside0.mk hr0
  have HC0 := Aside0.mk hc0
  clear hr0 hc0
  have H : (if (l0.length : Int) > 500 then (some true) else (tidelinelaw06_long.l0 k l0 0)) = some r := h
  clear h
  by_cases c2 : (l0.length : Int) > 500
  · rw [if_pos c2] at H
    have c2b0 : decide (500 < (l0.length : Int)) = true := decide_eq_true c2
    have c2b1 : decide (500 < l0.length) = true := decide_eq_true (by omega)
    clear c2
    obtain rfl := Option.some.inj H
    go_enter Try.func54, Try.ntmps54
    go_wp2
    go_ret
    exact ⟨by first | rfl | (simp; done) | (simp [*]; done), by repeat (first | exact Drawn0.refl _ | apply Drawn0.step)⟩
  · rw [if_neg c2] at H
    have c2b0 : decide (500 < (l0.length : Int)) = false := decide_eq_false c2
    have c2b1 : decide (500 < l0.length) = false := decide_eq_false (by omega)
    clear c2
    have H' := Aside0.mk H
    clear H
    go_enter Try.func54, Try.ntmps54
    go_wp2
    go_loopg [3] k (fun kq v3 w' => ∃ (x3_1 : Int), v3 = .int .i64 x3_1 ∧ Aside0 (tidelinelaw06_long.l0 kq l0 x3_1 = some r) ∧ Aside0 (kq ≤ k) ∧ Drawn0 w w')
    case atStart => exact ⟨(0), (by first | rfl | (simp; done) | (simp [*]; done)), H', ⟨Nat.le_refl _⟩, by repeat (first | exact Drawn0.refl _ | apply Drawn0.step)⟩
    case round =>
      clear H'
      try clear c2
      try clear c2b0
      try clear c2b1
      try clear p2
      obtain ⟨x3_1, rfl, HA, HK1, ⟨m1, rfl⟩⟩ := hrel
      cases gk with
      | zero => exact absurd HA.out (by simp [tidelinelaw06_long.l0])
      | succ k1 =>
        have H := HA.out
        clear HA
        simp only [tidelinelaw06_long.l0] at H
        by_cases c3 : x3_1 < (l0.length : Int)
        · rw [if_pos c3] at H
          have c3b0 : decide (x3_1 < (l0.length : Int)) = true := decide_eq_true c3
          clear c3
          by_cases c4 : 0 ≤ x3_1
          · rw [if_pos c4] at H
            have c4b0 : decide (0 ≤ x3_1) = true := decide_eq_true c4
            clear c4
            by_cases c5 : (((rd_T39 l0 x3_1).f2).size : Int) > 300
            · rw [if_pos c5] at H
              have c5b0 : decide (300 < (((rd_T39 l0 x3_1).f2).size : Int)) = true := decide_eq_true c5
              have c5b1 : decide (300 < ((rd_T39 l0 x3_1).f2).size) = true := decide_eq_true (by omega)
              clear c5
              obtain rfl := Option.some.inj H
              have p888 : 0 ≤ (x3_1 : Int) := of_decide_eq_true (by first | (with_reducible assumption) | assumption)
              have q888 : x3_1 < (l0.length : Int) := of_decide_eq_true (by first | (with_reducible assumption) | assumption)
              obtain ⟨ad888, e888, hx888_0, hx888_1, hx888_2⟩ := at_T39 HR0.out x3_1 p888 q888
              cases e888
              replace p888 := eq_true p888
              replace q888 := eq_true q888
              go_wp2
              go_ret
              exact ⟨by first | rfl | (simp; done) | (simp [*]; done), by repeat (first | exact Drawn0.refl _ | apply Drawn0.step)⟩
            · rw [if_neg c5] at H
              have c5b0 : decide (300 < (((rd_T39 l0 x3_1).f2).size : Int)) = false := decide_eq_false c5
              have c5b1 : decide (300 < ((rd_T39 l0 x3_1).f2).size) = false := decide_eq_false (by omega)
              clear c5
              have H' := Aside0.mk H
              clear H
              have p888 : 0 ≤ (x3_1 : Int) := of_decide_eq_true (by first | (with_reducible assumption) | assumption)
              have q888 : x3_1 < (l0.length : Int) := of_decide_eq_true (by first | (with_reducible assumption) | assumption)
              obtain ⟨ad888, e888, hx888_0, hx888_1, hx888_2⟩ := at_T39 HR0.out x3_1 p888 q888
              cases e888
              replace p888 := eq_true p888
              replace q888 := eq_true q888
              go_wp2
              go_roundg k1
              case measure => have := HK1.out; omega
              case rel => exact ⟨(wrap64 (x3_1 + 1)), (by first | rfl | (simp; done) | (simp [*]; done)), H', ⟨by have := HK1.out; omega⟩, by repeat (first | exact Drawn0.refl _ | apply Drawn0.step)⟩
          · rw [if_neg c4] at H
            exact absurd H (by simp)
        · rw [if_neg c3] at H
          have c3b0 : decide (x3_1 < (l0.length : Int)) = false := decide_eq_false c3
          clear c3
          obtain rfl := Option.some.inj H
          go_wp2
          go_ret
          exact ⟨by first | rfl | (simp; done) | (simp [*]; done), by repeat (first | exact Drawn0.refl _ | apply Drawn0.step)⟩

end Go.Proofs.Ytlmcefhpnfoahaa.P
end

section
namespace Go.Proofs.Ytlmcefhpnfoahaa.P
open Go.RowKit Go.Proofs.YtlmcefhpnfoahaaW.PrintWords Go.Proofs.YtlmcefhpnfoahaaW.PrintLast Go.Proofs.YtlmcefhpnfoahaaW.PrintMore
attribute [local go_sem] max2_int min2_int max_two min_two max_three min_three max_four min_four   -- for this text's walks alone
set_option linter.unusedVariables false
set_option linter.unusedSimpArgs false

mutual
def tidelineref06_Column.j0 : Nat → Int → List (S39) → Bool → Option (Bool)
  | 0, _, _, _ => none
  | k + 1, x0, x1, x16 => if x16 = true then (some false) else (tidelineref06_Column.l0 k x0 x1 0)
def tidelineref06_Column.l0 : Nat → Int → List (S39) → Int → Option (Bool)
  | 0, _, _, _ => none
  | k + 1, x0, x1, x5 => if x5 < (x1.length : Int) then (if 0 ≤ x5 then ((tidelineref03_May.f ((rd_T39 x1 x5).f0) ((rd_T39 x1 x5).f1) ((rd_T39 x1 x5).f2)).bind fun t890 => (if t890 = true then (if ((rd_T39 x1 x5).f0) = 0 then (tidelineref06_Column.l0 k x0 x1 (wrap64 (x5 + 1))) else (if ((rd_T39 x1 x5).f0) = x0 then (tidelineref06_Column.l0 k x0 x1 (wrap64 (x5 + 1))) else (some false))) else (some false))) else (none)) else (some true)
end
def tidelineref06_Column.f (k : Nat) (a0 : Int) (l1 : List (S39)) : Option (Bool) := if a0 < 1 then (tidelineref06_Column.j0 k a0 l1 true) else (if a0 > 3 then (tidelineref06_Column.j0 k a0 l1 true) else (tidelineref06_Column.j0 k a0 l1 (decide ((l1.length : Int) > 65536))))
set_option maxHeartbeats 8000000 in
set_option maxRecDepth 100000 in
theorem tidelineref06_Column.calls (k : Nat) (a0 : Int) (A1 : Option Addr) (c1 : Nat) (l1 : List (S39)) (r : Bool) (w : World) (hr1 : Kd.C k39 w A1 l1.length l1) (hc1 : l1.length ≤ c1) (h : tidelineref06_Column.f k a0 l1 = some r) :
    Calls Try.prog 60 #[.int .u8 a0, .slice A1 l1.length c1] w fun e w' => e = .returned (.bool r) ∧ Below w.heap.size w w' := by
  have hu39 := Try.underlying39
  have HR1 := Aside0.mk hr1
  have HC1 := Aside0.mk hc1
  clear hr1 hc1
  have HB := Aside0.mk (Below.refl w.heap.size w)
  have H : (if a0 < 1 then (tidelineref06_Column.j0 k a0 l1 true) else (if a0 > 3 then (tidelineref06_Column.j0 k a0 l1 true) else (tidelineref06_Column.j0 k a0 l1 (decide ((l1.length : Int) > 65536))))) = some r := h
  clear h
  have HC3 := Aside0.mk H
  clear H
  go_enter Try.func60, Try.ntmps60
  go_upto_region 1 with (fail)
  go_cut [16] (fun v16 wc => ∃ (kq : Nat) (x16_2 : Bool), v16 = .bool x16_2 ∧ Aside0 (tidelineref06_Column.j0 kq a0 l1 x16_2 = some r) ∧ Aside0 (kq ≤ k) ∧ Aside0 (Below w.heap.size w wc))
  case first =>
    have H := HC3.out
    clear HC3
    by_cases c4 : a0 < 1
    · rw [if_pos c4] at H
      have c4b0 : decide (a0 < 1) = true := decide_eq_true c4
      clear c4
      (first | rw [c4b0] | (simp only [i64_w, i32_w]; rw [c4b0]) | skip)
      have H' := Aside0.mk H
      clear H
      go_wp2
      go_meet
      case rel => exact ⟨_, (true), (by first | rfl | (simp; done) | (simp [*]; done)), H', ⟨by first | omega | exact Nat.le_refl _⟩, ⟨by repeat (first | (with_reducible first | exact HB.out | apply below_alloc | apply pw_below_drewN | apply below_drew1) | exact HB.out)⟩⟩
    · rw [if_neg c4] at H
      have c4b0 : decide (a0 < 1) = false := decide_eq_false c4
      clear c4
      (first | rw [c4b0] | (simp only [i64_w, i32_w]; rw [c4b0]) | skip)
      by_cases c5 : a0 > 3
      · rw [if_pos c5] at H
        have c5b0 : decide (3 < a0) = true := decide_eq_true c5
        clear c5
        have H' := Aside0.mk H
        clear H
        go_wp2
        go_meet
        case rel => exact ⟨_, (true), (by first | rfl | (simp; done) | (simp [*]; done)), H', ⟨by first | omega | exact Nat.le_refl _⟩, ⟨by repeat (first | (with_reducible first | exact HB.out | apply below_alloc | apply pw_below_drewN | apply below_drew1) | exact HB.out)⟩⟩
      · rw [if_neg c5] at H
        have c5b0 : decide (3 < a0) = false := decide_eq_false c5
        clear c5
        have H' := Aside0.mk H
        clear H
        go_wp2
        go_meet
        case rel => exact ⟨_, (decide ((l1.length : Int) > 65536)), (by first | rfl | (simp; done) | (simp [*]; done)), H', ⟨by first | omega | exact Nat.le_refl _⟩, ⟨by repeat (first | (with_reducible first | exact HB.out | apply below_alloc | apply pw_below_drewN | apply below_drew1) | exact HB.out)⟩⟩
  case rest =>
    clear HC3
    try clear c1
    try clear p2
    try clear c4
    try clear c4b0
    try clear c5
    try clear c5b0
    obtain ⟨kq, x16_2, rfl, HA, HJ2, HB⟩ := hcut
    cases kq with
    | zero => exact absurd HA.out (by simp [tidelineref06_Column.j0])
    | succ kj2 =>
      have H := HA.out
      clear HA
      simp only [tidelineref06_Column.j0] at H
      by_cases c6 : x16_2 = true
      · subst c6
        have H1 : (some false) = some r := by rw [if_pos rfl] at H; exact H
        clear H
        have H := H1
        clear H1
        obtain rfl := Option.some.inj H
        go_wp2
        go_ret
        exact ⟨by first | rfl | (simp [errW_none, errW_some] <;> rfl) | (simp [*, errW_none, errW_some] <;> rfl), by repeat (first | (with_reducible first | exact HB.out | apply below_alloc | apply pw_below_drewN | apply below_drew1) | exact HB.out)⟩
      · replace c6 := Bool.eq_false_iff.mpr c6
        subst c6
        have H1 : (tidelineref06_Column.l0 kj2 a0 l1 0) = some r := by rw [if_neg (show ¬ (false = true) by decide)] at H; exact H
        clear H
        have H := H1
        clear H1
        have H' := Aside0.mk H
        clear H
        go_wp2
        go_loopg [5] kj2 (fun kq v5 w' => ∃ (x5_2 : Int), v5 = .int .i64 x5_2 ∧ Aside0 (tidelineref06_Column.l0 kq a0 l1 x5_2 = some r) ∧ Aside0 (kq ≤ kj2) ∧ Aside0 (Below w.heap.size w w'))
        case atStart => exact ⟨(0), (by first | rfl | (simp; done) | (simp [*]; done)), H', ⟨Nat.le_refl _⟩, ⟨by repeat (first | (with_reducible first | exact HB.out | apply below_alloc | apply pw_below_drewN | apply below_drew1) | exact HB.out)⟩⟩
        case round =>
          clear H'
          try clear c1
          try clear p2
          try clear c4
          try clear c4b0
          try clear c5
          try clear c5b0
          try clear c6
          try clear p2
          obtain ⟨x5_2, rfl, HA, HK2, HB⟩ := hrel
          cases gk with
          | zero => exact absurd HA.out (by simp [tidelineref06_Column.l0])
          | succ k2 =>
            have H := HA.out
            clear HA
            simp only [tidelineref06_Column.l0] at H
            by_cases c7 : x5_2 < (l1.length : Int)
            · rw [if_pos c7] at H
              have c7b0 : decide (x5_2 < (l1.length : Int)) = true := decide_eq_true c7
              clear c7
              by_cases c8 : 0 ≤ x5_2
              · rw [if_pos c8] at H
                have c8b0 : decide (0 ≤ x5_2) = true := decide_eq_true c8
                clear c8
                replace H := Option.bind_eq_some_iff.mp H
                obtain ⟨t890, A90, H⟩ := H
                replace H : (if t890 = true then (if ((rd_T39 l1 x5_2).f0) = 0 then (tidelineref06_Column.l0 k2 a0 l1 (wrap64 (x5_2 + 1))) else (if ((rd_T39 l1 x5_2).f0) = a0 then (tidelineref06_Column.l0 k2 a0 l1 (wrap64 (x5_2 + 1))) else (some false))) else (some false)) = some r := H
                have A9 := Aside0.mk A90
                clear A90
                by_cases c10 : t890 = true
                · subst c10
                  have H1 : (if ((rd_T39 l1 x5_2).f0) = 0 then (tidelineref06_Column.l0 k2 a0 l1 (wrap64 (x5_2 + 1))) else (if ((rd_T39 l1 x5_2).f0) = a0 then (tidelineref06_Column.l0 k2 a0 l1 (wrap64 (x5_2 + 1))) else (some false))) = some r := by rw [if_pos rfl] at H; exact H
                  clear H
                  have H := H1
                  clear H1
                  by_cases c11 : ((rd_T39 l1 x5_2).f0) = 0
                  · rw [if_pos c11] at H
                    have c11b0 : (((rd_T39 l1 x5_2).f0) == 0) = true := beq_iff_eq.mpr c11
                    have c11b1 : (((rd_T39 l1 x5_2).f0) != 0) = false := bne_eq_false_iff_eq.mpr c11
                    clear c11
                    have H' := Aside0.mk H
                    clear H
                    have p889 : 0 ≤ (x5_2 : Int) := of_decide_eq_true (by first | (with_reducible assumption) | assumption)
                    have q889 : x5_2 < (l1.length : Int) := of_decide_eq_true (by first | (with_reducible assumption) | assumption)
                    obtain ⟨ad889, e889, hx889_0, hx889_1, hx889_2⟩ := at_T39 HR1.out x5_2 p889 q889
                    cases e889
                    replace hx889_0 := (HB.out.cell (World.block_lt_of_cell? w _ hx889_0)).trans hx889_0
                    replace hx889_1 := (HB.out.cell (World.block_lt_of_cell? w _ hx889_1)).trans hx889_1
                    replace hx889_2 := (HB.out.cell (World.block_lt_of_cell? w _ hx889_2)).trans hx889_2
                    replace p889 := eq_true p889
                    replace q889 := eq_true q889
                    go_wp2_with (first | ((with_reducible refine gate_callee (f := 61) rfl ?_); refine goesL_ (some 27) rfl rfl Try.func61 (by kernel_rfl) rfl #[.agg #[.int .u8 ((rd_T39 l1 x5_2).f0), .int .i64 ((rd_T39 l1 x5_2).f1), .string ((rd_T39 l1 x5_2).f2)]] rfl (by (try simp only [List.map_toArray, List.map_cons, List.map_nil]); first | done | rfl | (simp only [List.length_drop, List.length_take]; rfl)) ?_; (with_reducible refine (tidelineref03_May.calls ((rd_T39 l1 x5_2).f0) ((rd_T39 l1 x5_2).f1) ((rd_T39 l1 x5_2).f2) true _ A9.out).mono ?_); rintro e w12 ⟨rfl, hb⟩; refine ⟨_, rfl, ?_⟩; have n0_ := Aside0.mk (below_step (by repeat (first | (with_reducible first | exact HB.out | apply below_alloc | apply pw_below_drewN | apply below_drew1) | exact HB.out)) hb); clear HB; have HB := n0_; clear n0_; (try clear hb); (try clear hb2); (try clear hk); (try clear hi); have p891 : 0 ≤ (x5_2 : Int) := of_decide_eq_true (by first | (with_reducible assumption) | assumption); have q891 : x5_2 < (l1.length : Int) := of_decide_eq_true (by first | (with_reducible assumption) | assumption); obtain ⟨ad891, e891, hx891_0, hx891_1, hx891_2⟩ := at_T39 HR1.out x5_2 p891 q891; obtain rfl : ad889 = ad891 := (by injection e891); replace hx891_0 := (HB.out.cell (World.block_lt_of_cell? w _ hx891_0)).trans hx891_0; replace hx891_1 := (HB.out.cell (World.block_lt_of_cell? w _ hx891_1)).trans hx891_1; replace hx891_2 := (HB.out.cell (World.block_lt_of_cell? w _ hx891_2)).trans hx891_2; replace p891 := eq_true p891; replace q891 := eq_true q891))
                    go_roundg k2
                    case measure => have := HJ2.out; have := HK2.out; omega
                    case rel => exact ⟨(wrap64 (x5_2 + 1)), (by first | rfl | (simp; done) | (simp [*]; done)), H', ⟨by have := HJ2.out; have := HK2.out; omega⟩, ⟨by repeat (first | (with_reducible first | exact HB.out | apply below_alloc | apply pw_below_drewN | apply below_drew1) | exact HB.out)⟩⟩
                  · rw [if_neg c11] at H
                    have c11b0 : (((rd_T39 l1 x5_2).f0) == 0) = false := beq_eq_false_iff_ne.mpr c11
                    have c11b1 : (((rd_T39 l1 x5_2).f0) != 0) = true := bne_iff_ne.mpr c11
                    by_cases c13 : ((rd_T39 l1 x5_2).f0) = a0
                    · rw [if_pos c13] at H
                      have c13b0 : (((rd_T39 l1 x5_2).f0) == a0) = true := beq_iff_eq.mpr c13
                      have c13b1 : (((rd_T39 l1 x5_2).f0) != a0) = false := bne_eq_false_iff_eq.mpr c13
                      clear c13
                      have H' := Aside0.mk H
                      clear H
                      have p889 : 0 ≤ (x5_2 : Int) := of_decide_eq_true (by first | (with_reducible assumption) | assumption)
                      have q889 : x5_2 < (l1.length : Int) := of_decide_eq_true (by first | (with_reducible assumption) | assumption)
                      obtain ⟨ad889, e889, hx889_0, hx889_1, hx889_2⟩ := at_T39 HR1.out x5_2 p889 q889
                      cases e889
                      replace hx889_0 := (HB.out.cell (World.block_lt_of_cell? w _ hx889_0)).trans hx889_0
                      replace hx889_1 := (HB.out.cell (World.block_lt_of_cell? w _ hx889_1)).trans hx889_1
                      replace hx889_2 := (HB.out.cell (World.block_lt_of_cell? w _ hx889_2)).trans hx889_2
                      replace p889 := eq_true p889
                      replace q889 := eq_true q889
                      go_wp2_with (first | ((with_reducible refine gate_callee (f := 61) rfl ?_); refine goesL_ (some 27) rfl rfl Try.func61 (by kernel_rfl) rfl #[.agg #[.int .u8 ((rd_T39 l1 x5_2).f0), .int .i64 ((rd_T39 l1 x5_2).f1), .string ((rd_T39 l1 x5_2).f2)]] rfl (by (try simp only [List.map_toArray, List.map_cons, List.map_nil]); first | done | rfl | (simp only [List.length_drop, List.length_take]; rfl)) ?_; (with_reducible refine (tidelineref03_May.calls ((rd_T39 l1 x5_2).f0) ((rd_T39 l1 x5_2).f1) ((rd_T39 l1 x5_2).f2) true _ A9.out).mono ?_); rintro e w14 ⟨rfl, hb⟩; refine ⟨_, rfl, ?_⟩; have n0_ := Aside0.mk (below_step (by repeat (first | (with_reducible first | exact HB.out | apply below_alloc | apply pw_below_drewN | apply below_drew1) | exact HB.out)) hb); clear HB; have HB := n0_; clear n0_; (try clear hb); (try clear hb2); (try clear hk); (try clear hi); have p891 : 0 ≤ (x5_2 : Int) := of_decide_eq_true (by first | (with_reducible assumption) | assumption); have q891 : x5_2 < (l1.length : Int) := of_decide_eq_true (by first | (with_reducible assumption) | assumption); obtain ⟨ad891, e891, hx891_0, hx891_1, hx891_2⟩ := at_T39 HR1.out x5_2 p891 q891; obtain rfl : ad889 = ad891 := (by injection e891); replace hx891_0 := (HB.out.cell (World.block_lt_of_cell? w _ hx891_0)).trans hx891_0; replace hx891_1 := (HB.out.cell (World.block_lt_of_cell? w _ hx891_1)).trans hx891_1; replace hx891_2 := (HB.out.cell (World.block_lt_of_cell? w _ hx891_2)).trans hx891_2; replace p891 := eq_true p891; replace q891 := eq_true q891; have p892 : 0 ≤ (x5_2 : Int) := of_decide_eq_true (by first | (with_reducible assumption) | assumption); have q892 : x5_2 < (l1.length : Int) := of_decide_eq_true (by first | (with_reducible assumption) | assumption); obtain ⟨ad892, e892, hx892_0, hx892_1, hx892_2⟩ := at_T39 HR1.out x5_2 p892 q892; obtain rfl : ad889 = ad892 := (by injection e892); replace hx892_0 := (HB.out.cell (World.block_lt_of_cell? w _ hx892_0)).trans hx892_0; replace hx892_1 := (HB.out.cell (World.block_lt_of_cell? w _ hx892_1)).trans hx892_1; replace hx892_2 := (HB.out.cell (World.block_lt_of_cell? w _ hx892_2)).trans hx892_2; replace p892 := eq_true p892; replace q892 := eq_true q892))
                      go_roundg k2
                      case measure => have := HJ2.out; have := HK2.out; omega
                      case rel => exact ⟨(wrap64 (x5_2 + 1)), (by first | rfl | (simp; done) | (simp [*]; done)), H', ⟨by have := HJ2.out; have := HK2.out; omega⟩, ⟨by repeat (first | (with_reducible first | exact HB.out | apply below_alloc | apply pw_below_drewN | apply below_drew1) | exact HB.out)⟩⟩
                    · rw [if_neg c13] at H
                      have c13b0 : (((rd_T39 l1 x5_2).f0) == a0) = false := beq_eq_false_iff_ne.mpr c13
                      have c13b1 : (((rd_T39 l1 x5_2).f0) != a0) = true := bne_iff_ne.mpr c13
                      obtain rfl := Option.some.inj H
                      have p889 : 0 ≤ (x5_2 : Int) := of_decide_eq_true (by first | (with_reducible assumption) | assumption)
                      have q889 : x5_2 < (l1.length : Int) := of_decide_eq_true (by first | (with_reducible assumption) | assumption)
                      obtain ⟨ad889, e889, hx889_0, hx889_1, hx889_2⟩ := at_T39 HR1.out x5_2 p889 q889
                      cases e889
                      replace hx889_0 := (HB.out.cell (World.block_lt_of_cell? w _ hx889_0)).trans hx889_0
                      replace hx889_1 := (HB.out.cell (World.block_lt_of_cell? w _ hx889_1)).trans hx889_1
                      replace hx889_2 := (HB.out.cell (World.block_lt_of_cell? w _ hx889_2)).trans hx889_2
                      replace p889 := eq_true p889
                      replace q889 := eq_true q889
                      go_wp2_with (first | ((with_reducible refine gate_callee (f := 61) rfl ?_); refine goesL_ (some 27) rfl rfl Try.func61 (by kernel_rfl) rfl #[.agg #[.int .u8 ((rd_T39 l1 x5_2).f0), .int .i64 ((rd_T39 l1 x5_2).f1), .string ((rd_T39 l1 x5_2).f2)]] rfl (by (try simp only [List.map_toArray, List.map_cons, List.map_nil]); first | done | rfl | (simp only [List.length_drop, List.length_take]; rfl)) ?_; (with_reducible refine (tidelineref03_May.calls ((rd_T39 l1 x5_2).f0) ((rd_T39 l1 x5_2).f1) ((rd_T39 l1 x5_2).f2) true _ A9.out).mono ?_); rintro e w15 ⟨rfl, hb⟩; refine ⟨_, rfl, ?_⟩; have n0_ := Aside0.mk (below_step (by repeat (first | (with_reducible first | exact HB.out | apply below_alloc | apply pw_below_drewN | apply below_drew1) | exact HB.out)) hb); clear HB; have HB := n0_; clear n0_; (try clear hb); (try clear hb2); (try clear hk); (try clear hi); have p891 : 0 ≤ (x5_2 : Int) := of_decide_eq_true (by first | (with_reducible assumption) | assumption); have q891 : x5_2 < (l1.length : Int) := of_decide_eq_true (by first | (with_reducible assumption) | assumption); obtain ⟨ad891, e891, hx891_0, hx891_1, hx891_2⟩ := at_T39 HR1.out x5_2 p891 q891; obtain rfl : ad889 = ad891 := (by injection e891); replace hx891_0 := (HB.out.cell (World.block_lt_of_cell? w _ hx891_0)).trans hx891_0; replace hx891_1 := (HB.out.cell (World.block_lt_of_cell? w _ hx891_1)).trans hx891_1; replace hx891_2 := (HB.out.cell (World.block_lt_of_cell? w _ hx891_2)).trans hx891_2; replace p891 := eq_true p891; replace q891 := eq_true q891; have p892 : 0 ≤ (x5_2 : Int) := of_decide_eq_true (by first | (with_reducible assumption) | assumption); have q892 : x5_2 < (l1.length : Int) := of_decide_eq_true (by first | (with_reducible assumption) | assumption); obtain ⟨ad892, e892, hx892_0, hx892_1, hx892_2⟩ := at_T39 HR1.out x5_2 p892 q892; obtain rfl : ad889 = ad892 := (by injection e892); replace hx892_0 := (HB.out.cell (World.block_lt_of_cell? w _ hx892_0)).trans hx892_0; replace hx892_1 := (HB.out.cell (World.block_lt_of_cell? w _ hx892_1)).trans hx892_1; replace hx892_2 := (HB.out.cell (World.block_lt_of_cell? w _ hx892_2)).trans hx892_2; replace p892 := eq_true p892; replace q892 := eq_true q892))
                      go_ret
                      exact ⟨by first | rfl | (simp [errW_none, errW_some] <;> rfl) | (simp [*, errW_none, errW_some] <;> rfl), by repeat (first | (with_reducible first | exact HB.out | apply below_alloc | apply pw_below_drewN | apply below_drew1) | exact HB.out)⟩
                · replace c10 := Bool.eq_false_iff.mpr c10
                  subst c10
                  have H1 : (some false) = some r := by rw [if_neg (show ¬ (false = true) by decide)] at H; exact H
                  clear H
                  have H := H1
                  clear H1
                  obtain rfl := Option.some.inj H
                  have p889 : 0 ≤ (x5_2 : Int) := of_decide_eq_true (by first | (with_reducible assumption) | assumption)
                  have q889 : x5_2 < (l1.length : Int) := of_decide_eq_true (by first | (with_reducible assumption) | assumption)
                  obtain ⟨ad889, e889, hx889_0, hx889_1, hx889_2⟩ := at_T39 HR1.out x5_2 p889 q889
                  cases e889
                  replace hx889_0 := (HB.out.cell (World.block_lt_of_cell? w _ hx889_0)).trans hx889_0
                  replace hx889_1 := (HB.out.cell (World.block_lt_of_cell? w _ hx889_1)).trans hx889_1
                  replace hx889_2 := (HB.out.cell (World.block_lt_of_cell? w _ hx889_2)).trans hx889_2
                  replace p889 := eq_true p889
                  replace q889 := eq_true q889
                  go_wp2_with (first | ((with_reducible refine gate_callee (f := 61) rfl ?_); refine goesL_ (some 27) rfl rfl Try.func61 (by kernel_rfl) rfl #[.agg #[.int .u8 ((rd_T39 l1 x5_2).f0), .int .i64 ((rd_T39 l1 x5_2).f1), .string ((rd_T39 l1 x5_2).f2)]] rfl (by (try simp only [List.map_toArray, List.map_cons, List.map_nil]); first | done | rfl | (simp only [List.length_drop, List.length_take]; rfl)) ?_; (with_reducible refine (tidelineref03_May.calls ((rd_T39 l1 x5_2).f0) ((rd_T39 l1 x5_2).f1) ((rd_T39 l1 x5_2).f2) false _ A9.out).mono ?_); rintro e w16 ⟨rfl, hb⟩; refine ⟨_, rfl, ?_⟩; have n0_ := Aside0.mk (below_step (by repeat (first | (with_reducible first | exact HB.out | apply below_alloc | apply pw_below_drewN | apply below_drew1) | exact HB.out)) hb); clear HB; have HB := n0_; clear n0_; (try clear hb); (try clear hb2); (try clear hk); (try clear hi)))
                  go_ret
                  exact ⟨by first | rfl | (simp [errW_none, errW_some] <;> rfl) | (simp [*, errW_none, errW_some] <;> rfl), by repeat (first | (with_reducible first | exact HB.out | apply below_alloc | apply pw_below_drewN | apply below_drew1) | exact HB.out)⟩
              · rw [if_neg c8] at H
                exact absurd H (by simp)
            · rw [if_neg c7] at H
              have c7b0 : decide (x5_2 < (l1.length : Int)) = false := decide_eq_false c7
              clear c7
              obtain rfl := Option.some.inj H
              go_wp2
              go_ret
              exact ⟨by first | rfl | (simp [errW_none, errW_some] <;> rfl) | (simp [*, errW_none, errW_some] <;> rfl), by repeat (first | (with_reducible first | exact HB.out | apply below_alloc | apply pw_below_drewN | apply below_drew1) | exact HB.out)⟩

end Go.Proofs.Ytlmcefhpnfoahaa.P
end

section
namespace Go.Proofs.Ytlmcefhpnfoahaa.P
open Go.RowKit Go.Proofs.YtlmcefhpnfoahaaW.PrintWords Go.Proofs.YtlmcefhpnfoahaaW.PrintLast Go.Proofs.YtlmcefhpnfoahaaW.PrintMore
set_option linter.unusedVariables false
set_option linter.unusedSimpArgs false

theorem wrap_i64 (n : Int) : i64 (wrap64 n) := by unfold i64 wrap64; omega
end Go.Proofs.Ytlmcefhpnfoahaa.P
end

section
namespace Go.Proofs.Ytlmcefhpnfoahaa.P
open Go.RowKit Go.Proofs.YtlmcefhpnfoahaaW.PrintWords Go.Proofs.YtlmcefhpnfoahaaW.PrintLast Go.Proofs.YtlmcefhpnfoahaaW.PrintMore
set_option linter.unusedVariables false
set_option linter.unusedSimpArgs false

theorem marks_le (l : List S39) : (marksOf l).length ≤ l.length := List.length_filter_le _ _
end Go.Proofs.Ytlmcefhpnfoahaa.P
end

section
namespace Go.Proofs.Ytlmcefhpnfoahaa.P
open Go.RowKit Go.Proofs.YtlmcefhpnfoahaaW.PrintWords Go.Proofs.YtlmcefhpnfoahaaW.PrintLast Go.Proofs.YtlmcefhpnfoahaaW.PrintMore
set_option linter.unusedVariables false
set_option linter.unusedSimpArgs false

end Go.Proofs.Ytlmcefhpnfoahaa.P
end

section
namespace Go.Proofs.Ytlmcefhpnfoahaa.P
open Go.RowKit Go.Proofs.YtlmcefhpnfoahaaW.PrintWords Go.Proofs.YtlmcefhpnfoahaaW.PrintLast Go.Proofs.YtlmcefhpnfoahaaW.PrintMore
set_option linter.unusedVariables false
set_option linter.unusedSimpArgs false

end Go.Proofs.Ytlmcefhpnfoahaa.P
end

section
namespace Go.Proofs.Ytlmcefhpnfoahaa.P
open Go.RowKit Go.Proofs.YtlmcefhpnfoahaaW.PrintWords Go.Proofs.YtlmcefhpnfoahaaW.PrintLast Go.Proofs.YtlmcefhpnfoahaaW.PrintMore
attribute [local go_sem] max2_int min2_int max_two min_two max_three min_three max_four min_four   -- for this text's walks alone
set_option linter.unusedVariables false
set_option linter.unusedSimpArgs false

end Go.Proofs.Ytlmcefhpnfoahaa.P
end

section
namespace Go.Proofs.Ytlmcefhpnfoahaa.P
open Go.RowKit Go.Proofs.YtlmcefhpnfoahaaW.PrintWords Go.Proofs.YtlmcefhpnfoahaaW.PrintLast Go.Proofs.YtlmcefhpnfoahaaW.PrintMore
set_option linter.unusedVariables false
set_option linter.unusedSimpArgs false
end Go.Proofs.Ytlmcefhpnfoahaa.P
end

section
namespace Go.Proofs.Ytlmcefhpnfoahaa.P
open Go.RowKit Go.Proofs.YtlmcefhpnfoahaaW.PrintWords Go.Proofs.YtlmcefhpnfoahaaW.PrintLast Go.Proofs.YtlmcefhpnfoahaaW.PrintMore
set_option linter.unusedVariables false
set_option linter.unusedSimpArgs false

theorem kindB_iff (kind : Int) : kindB kind = true ↔ isKind kind := by
  unfold kindB isKind
  simp only [Bool.and_eq_true, decide_eq_true_eq]
  omega
theorem refCol_l0 (kind : Int) (l : List S39) (hl : l.length ≤ 1000000) (h0 : ∀ x ∈ l, 0 ≤ x.f0) : ∀ (d k i : Nat), i + d = l.length → d < k → tidelineref06_Column.l0 k kind l i = some ((l.drop i).all (rowMay kind)) := by
  intro d
  induction d with
  | zero =>
    intro k i hi hk
    obtain ⟨k, rfl⟩ : ∃ j, k = j + 1 := ⟨k - 1, by omega⟩
    rw [tidelineref06_Column.l0, if_neg (by omega), List.drop_of_length_le (by omega)]
    rfl
  | succ d ih =>
    intro k i hi hk
    obtain ⟨k, rfl⟩ : ∃ j, k = j + 1 := ⟨k - 1, by omega⟩
    have hlt : i < l.length := by omega
    rw [tidelineref06_Column.l0, if_pos (by omega), if_pos (by omega), refMay (h0 _ (rdT_mem hlt)), Option.bind_some, w64s i (by omega), List.drop_eq_getElem_cons hlt, ← rdT_get hlt, List.all_cons]
    by_cases hm : mayB (rd_T39 l i) = true
    · rw [if_pos hm]
      by_cases hz : (rd_T39 l i).f0 = 0
      · rw [if_pos hz, ih k (i + 1) (by omega) (by omega)]
        congr 1
        simp [rowMay, hm, hz]
      · rw [if_neg hz]
        by_cases ht : (rd_T39 l i).f0 = kind
        · rw [if_pos ht, ih k (i + 1) (by omega) (by omega)]
          congr 1
          simp [rowMay, hm, ht]
        · rw [if_neg ht]
          congr 1
          simp [rowMay, hz, ht]
    · rw [if_neg hm]
      congr 1
      simp [rowMay, hm]
theorem refCol_f (kind : Int) (l : List S39) (hl : l.length ≤ 1000000) (h0 : ∀ x ∈ l, 0 ≤ x.f0) (k : Nat) (hk : l.length + 2 ≤ k) : tidelineref06_Column.f k kind l = some (decide (kindB kind = true ∧ l.length ≤ 65536 ∧ fitCol kind l = true)) := by
  obtain ⟨k, rfl⟩ : ∃ j, k = j + 1 := ⟨k - 1, by omega⟩
  unfold tidelineref06_Column.f
  have hkb := kindB_iff kind
  unfold isKind at hkb
  by_cases h1 : kind < 1
  · rw [if_pos h1, tidelineref06_Column.j0, if_pos rfl, decide_eq_false (fun h => by have := hkb.mp h.1; omega)]
  · rw [if_neg h1]
    by_cases h2 : kind > 3
    · rw [if_pos h2, tidelineref06_Column.j0, if_pos rfl, decide_eq_false (fun h => by have := hkb.mp h.1; omega)]
    · rw [if_neg h2]
      by_cases h3 : (l.length : Int) > 65536
      · rw [decide_eq_true h3, tidelineref06_Column.j0, if_pos rfl, decide_eq_false (fun h => by omega)]
      · rw [decide_eq_false h3, tidelineref06_Column.j0, if_neg (by decide)]
        have := refCol_l0 kind l hl h0 l.length k 0 (by omega) (by omega)
        rw [List.drop_zero] at this
        rw [show (0 : Int) = ((0 : Nat) : Int) from rfl, this]
        congr 1
        have hkk : kindB kind = true := hkb.mpr (by omega)
        have hll : l.length ≤ 65536 := by omega
        show fitCol kind l = _
        cases hf : fitCol kind l with
        | true => rw [decide_eq_true ⟨hkk, hll, rfl⟩]
        | false => rw [decide_eq_false (fun h => by cases h.2.2)]
theorem long6_l0 (l : List S39) (hl : l.length < 1000000) : ∀ (d k i : Nat), i + d = l.length → d < k → ∃ r, tidelinelaw06_long.l0 k l i = some r ∧ (r = false → ∀ j, i ≤ j → j < l.length → (rd_T39 l j).f2.size ≤ 300) := by
  intro d
  induction d with
  | zero =>
    intro k i hi hk
    obtain ⟨k, rfl⟩ : ∃ j, k = j + 1 := ⟨k - 1, by omega⟩
    rw [tidelinelaw06_long.l0, if_neg (by omega)]
    exact ⟨false, rfl, fun _ j h1 h2 => by omega⟩
  | succ d ih =>
    intro k i hi hk
    obtain ⟨k, rfl⟩ : ∃ j, k = j + 1 := ⟨k - 1, by omega⟩
    rw [tidelinelaw06_long.l0, if_pos (by omega), if_pos (by omega), w64s i (by omega)]
    by_cases h : ((rd_T39 l i).f2.size : Int) > 300
    · rw [if_pos h]; exact ⟨true, rfl, fun h => by cases h⟩
    · rw [if_neg h]
      obtain ⟨r, hr, hp⟩ := ih k (i + 1) (by omega) (by omega)
      refine ⟨r, hr, fun h0 j h1 h2 => ?_⟩
      by_cases hj : j = i
      · subst hj; omega
      · exact hp h0 j (by omega) h2
theorem long6_k (l : List S39) (k : Nat) (hk : 501 ≤ k) : ∃ r, tidelinelaw06_long.f k l = some r ∧ (r = false → l.length ≤ 500 ∧ ∀ x ∈ l, x.f2.size ≤ 300) := by
  unfold tidelinelaw06_long.f
  by_cases h2 : (l.length : Int) > 500
  · exact ⟨true, by rw [if_pos h2], fun h => by cases h⟩
  · obtain ⟨r, hr, hp⟩ := long6_l0 l (by omega) l.length k 0 (by omega) (by omega)
    refine ⟨r, by rw [if_neg h2]; exact hr, fun h0 => ⟨by omega, fun x hx => ?_⟩⟩
    obtain ⟨j, hj, e⟩ := List.getElem_of_mem hx
    have := hp h0 j (Nat.zero_le _) hj
    rw [rdT_get hj, e] at this
    exact this
theorem colPut_f (kind : Int) (l : List S39) (h1 : l.length ≤ 100000) (h2 : l.all okNum = true) (h3 : ∀ x ∈ l, x.f2.size ≤ 400000) : column_Put.f kind l = some (putCol kind l) := by
  unfold column_Put.f
  rw [if_pos ⟨h1, h2, by rw [List.all_eq_true]; intro x hx; simpa using h3 x hx⟩]
theorem colGet_f (kind : Int) (b : List Int) (n : Int) (h1 : b.length ≤ 400000) (h2 : ∀ x ∈ b, isByte x = true) : column_Get.f kind b n = some (getColI kind b n) := by
  unfold column_Get.f
  rw [if_pos ⟨h1, by rw [List.all_eq_true]; exact h2⟩]
end Go.Proofs.Ytlmcefhpnfoahaa.P
end
