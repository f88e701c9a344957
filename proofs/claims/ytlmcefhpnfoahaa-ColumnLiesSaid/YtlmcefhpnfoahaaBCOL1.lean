/- Part 1 of what the laws of this chapter stand on: texts of this session, gathered. Condition: none beside those that each theorem states. -/
import Derived.Lib.SliceRun
import Derived.RangeFuncNested
import Derived.RangeFuncBox
import Derived.RangeFuncCalls
import Derived.RangeFuncLeaves
import Derived.OwnWalkIn
import Derived.TacticsInMore
import Derived.LoopNIn
import Derived.LoopIn
import Derived.Shelf.Abstract
import Derived.Test.YtlmcefhpnfoahaaBCOL0
section
namespace Go.Proofs.Ytlmcefhpnfoahaa.P
open Go.RowKit Go.Proofs.YtlmcefhpnfoahaaW.PrintWords Go.Proofs.YtlmcefhpnfoahaaW.PrintLast Go.Proofs.YtlmcefhpnfoahaaW.PrintMore
attribute [local go_sem] max2_int min2_int max_two min_two max_three min_three max_four min_four   -- for this text's walks alone
set_option linter.unusedVariables false
set_option linter.unusedSimpArgs false

def column_may.f (a0 : Int) (a1_0 : Int) (a1_1 : Int) (a1_2 : ByteArray) : Option (Bool) := (key_Append.f ([] : List Int) (([(⟨a1_0, a1_1, a1_2⟩ : S39)] : List (S39)))).bind fun bt106 => (if bt106.2 = 0 then (if a1_0 = 0 then (some true) else (some (a1_0 == a0))) else (some false))
set_option maxHeartbeats 8000000 in
set_option maxRecDepth 100000 in
theorem column_may.calls (a0 : Int) (a1_0 : Int) (a1_1 : Int) (a1_2 : ByteArray) (r : Bool) (w : World) (h : column_may.f a0 a1_0 a1_1 a1_2 = some r) :
    Calls Try.prog 92 #[.int .u8 a0, .agg #[.int .u8 a1_0, .int .i64 a1_1, .string a1_2]] w fun e w' => e = .returned (.bool r) ∧ Below w.heap.size w w' := by
  have hu39 := Try.underlying39
  have HB := Aside0.mk (Below.refl w.heap.size w)
  have H : ((key_Append.f ([] : List Int) (([(⟨a1_0, a1_1, a1_2⟩ : S39)] : List (S39)))).bind fun bt106 => (if bt106.2 = 0 then (if a1_0 = 0 then (some true) else (some (a1_0 == a0))) else (some false))) = some r := h
  clear h
  obtain ⟨y103, hy103⟩ : ∃ y_ : List (S39), y_ = (([(⟨a1_0, a1_1, a1_2⟩ : S39)] : List (S39))) := ⟨_, rfl⟩
  replace H : ((key_Append.f ([] : List Int) y103).bind fun bt106 => (if bt106.2 = 0 then (if a1_0 = 0 then (some true) else (some (a1_0 == a0))) else (some false))) = some r := by first | (rw [hy103]; with_reducible exact H) | (have H2_ := (Option.bind_some _ _).symm.trans H; rw [hy103]; with_reducible exact H2_) | (have H2_ := (Option.bind_some _ _).symm.trans H; with_reducible exact H2_) | with_reducible exact H | (rw [hy103]; exact H) | exact H
  have Ny103 := Aside0.mk hy103
  clear hy103
  replace H := Option.bind_eq_some_iff.mp H
  obtain ⟨⟨t106, t107⟩, A30, H⟩ := H
  replace H : (if t107 = 0 then (if a1_0 = 0 then (some true) else (some (a1_0 == a0))) else (some false)) = some r := H
  have A3 := Aside0.mk A30
  clear A30
  by_cases c4 : t107 = 0
  · rw [if_pos c4] at H
    have c4b0 : (t107 == 0) = true := beq_iff_eq.mpr c4
    have c4b1 : (t107 != 0) = false := bne_eq_false_iff_eq.mpr c4
    clear c4
    by_cases c5 : a1_0 = 0
    · rw [if_pos c5] at H
      have c5b0 : (a1_0 == 0) = true := beq_iff_eq.mpr c5
      have c5b1 : (a1_0 != 0) = false := bne_eq_false_iff_eq.mpr c5
      clear c5
      obtain rfl := Option.some.inj H
      go_enter Try.func92, Try.ntmps92
      go_wp2_with (first | ((with_reducible refine gate_dst (N := 3) rfl ?_); refine box_event ?hg (N := 3) ?hd (cs := #[.int .u8 a1_0, .int .i64 a1_1, .string a1_2]) (t := 39) ?hr ?_; (case hd => rfl); (case hg => rfl); (case hr => first | (go_simp; done) | (go_simp; rfl)); intro gb102 hg w6 hbox hb; have n0_ := Aside0.mk (below_step (by repeat (first | (with_reducible first | exact HB.out | apply below_alloc | apply pw_below_drewN | apply below_drew1) | exact HB.out)) hb); have n1_ := Aside0.mk (hbox); have n2_ := Aside0.mk ((by rw [hg]; exact (below_size (by repeat (first | (with_reducible first | exact HB.out | apply below_alloc | apply pw_below_drewN | apply below_drew1) | exact HB.out))) : w.heap.size ≤ gb102)); have n3_ := Aside0.mk ((by rw [hg]; exact (below_size (by repeat (first | (with_reducible first | exact HB.out | apply below_alloc | apply pw_below_drewN | apply below_drew1) | exact HB.out))) : w.heap.size ≤ gb102)); clear HB; have HB := n0_; have BK102 := n1_; have GW102 := n2_; have GE102 := n3_; clear n0_ n1_ n2_ n3_; clear hb hbox hg; have hcz7_0 : w6.cell? ⟨gb102, 0, none⟩ = some (.int .u8 a1_0) := (blk_cell BK102.out 0).trans rfl; have hcz7_1 : w6.cell? ⟨gb102, 1, none⟩ = some (.int .i64 a1_1) := (blk_cell BK102.out 1).trans rfl; have hcz7_2 : w6.cell? ⟨gb102, 2, none⟩ = some (.string a1_2) := (blk_cell BK102.out 2).trans rfl; have hfz7_0 := blk_frozen BK102.out 0; have hfz7_1 := blk_frozen BK102.out 1; have hfz7_2 := blk_frozen BK102.out 2) | ((with_reducible refine gate_dst (N := 9) rfl ?_); refine Kd.R_lit k39 _ 39 ?hg (N := 9) ?hd (xs := ([(⟨a1_0, a1_1, a1_2⟩ : S39)] : List (S39))) (inner := [.int .u8 a1_0, .int .i64 a1_1, .string a1_2]) (ok := fun _ => True) (okp := fun _ => True) ?hr ?hp (fun _ hk => hk) trivial (Below.refl _ _) (Nat.le_refl _) (by simp) ?_; (case hd => rfl); (case hg => rfl); (case hr => first | (go_simp; done) | (go_simp; rfl)); (case hp => exact (Reps.c3 (show Kd.M k39 _ _ _ (⟨a1_0, a1_1, a1_2⟩ : S39) [.int .u8 a1_0, .int .i64 a1_1, .string a1_2] from (k39_mkM _ _ _ (⟨a1_0, a1_1, a1_2⟩ : S39) )) (Reps.none _ _))); intro v104 w8 ho9 hb hg_ hnew_; clear hg_ hnew_; (first | rw [← Ny103.out] at ho9 | (simp only [Int.reduceToNat] at ho9; rw [← Ny103.out] at ho9)); have n0_ := Aside0.mk (Kd.R_lower (Kd.R_newB ho9 (g := gb102) (o := .cells #[.int .u8 a1_0, .int .i64 a1_1, .string a1_2] 39 (0, 0)) (by (with_reducible repeat (first | refine blk_drewN ?_ _ | refine blk_drew ?_ | refine blk_alloc ?_ _)); exact BK102.out)) (below_size (by repeat (first | (with_reducible first | exact HB.out | apply below_alloc | apply pw_below_drewN | apply below_drew1 | refine below_set ?_ GE102.out) | exact HB.out)))); have n1_ := Aside0.mk (blk_below (g := gb102) (o := .cells #[.int .u8 a1_0, .int .i64 a1_1, .string a1_2] 39 (0, 0)) (by (with_reducible repeat (first | refine blk_drewN ?_ _ | refine blk_drew ?_ | refine blk_alloc ?_ _)); exact BK102.out) hb); have n2_ := Aside0.mk (below_step (by repeat (first | (with_reducible first | exact HB.out | apply below_alloc | apply pw_below_drewN | apply below_drew1 | refine below_set ?_ GE102.out) | exact HB.out)) hb); clear BK102; clear HB; have HO105 := n0_; have BK102 := n1_; have HB := n2_; clear n0_ n1_ n2_; clear hb ho9; obtain ⟨Ao10, co10, eo10⟩ := Kd.R_slice HO105.out; subst eo10) | ((with_reducible refine gate_callee (f := 30) rfl ?_); refine goesL_ (some 10) rfl rfl Try.func30 (by kernel_rfl) rfl #[.slice none 0 0, .slice Ao10 y103.length co10] rfl (by (try simp only [List.map_toArray, List.map_cons, List.map_nil]); first | done | rfl | (simp only [List.length_drop, List.length_take]; rfl)) ?_; (refine (key_Append.calls _ _ ([] : List Int) _ _ y103 t106 t107 _ ?side1 ?side2 ?side3 ?side4 A3.out).mono ?_); (case side1 => exact Kd.C_nil _ _); (case side2 => exact Nat.le_refl _); (case side3 => repeat (first | exact (Kd.R_reads' HO105.out).2.2 | (with_reducible refine Kd.C_alloc ?_ _) | (with_reducible refine Kd.C_drewN ?_ _) | (with_reducible refine Kd.C_drew ?_))); (case side4 => exact (Kd.R_reads' HO105.out).2.1); rintro e w11 ⟨v108, rfl, ho0, hb⟩; refine ⟨_, rfl, ?_⟩; have n0_ := Aside0.mk (Kd.R_below (by (with_reducible repeat (first | apply Kd.R_alloc | apply Kd.R_drewN | apply Kd.R_drew)); exact HO105.out) hb); have n1_ := Aside0.mk (Kd.R_lower ho0 (below_size (by repeat (first | (with_reducible first | exact HB.out | apply below_alloc | apply pw_below_drewN | apply below_drew1 | refine below_set ?_ GE102.out) | exact HB.out)))); have n2_ := Aside0.mk (blk_below (g := gb102) (o := .cells #[.int .u8 a1_0, .int .i64 a1_1, .string a1_2] 39 (0, 0)) (by (with_reducible repeat (first | refine blk_drewN ?_ _ | refine blk_drew ?_ | refine blk_alloc ?_ _)); exact BK102.out) hb); have n3_ := Aside0.mk (below_step (by repeat (first | (with_reducible first | exact HB.out | apply below_alloc | apply pw_below_drewN | apply below_drew1 | refine below_set ?_ GE102.out) | exact HB.out)) hb); clear HO105; clear BK102; clear HB; have HO105 := n0_; have HO109 := n1_; have BK102 := n2_; have HB := n3_; clear n0_ n1_ n2_ n3_; (try clear hb); (try clear hb2); (try clear hk); (try clear hi); (try clear ho0); have hcz12_0 : w11.cell? ⟨gb102, 0, none⟩ = some (.int .u8 a1_0) := (blk_cell BK102.out 0).trans rfl; have hcz12_1 : w11.cell? ⟨gb102, 1, none⟩ = some (.int .i64 a1_1) := (blk_cell BK102.out 1).trans rfl; have hcz12_2 : w11.cell? ⟨gb102, 2, none⟩ = some (.string a1_2) := (blk_cell BK102.out 2).trans rfl; have hfz12_0 := blk_frozen BK102.out 0; have hfz12_1 := blk_frozen BK102.out 1; have hfz12_2 := blk_frozen BK102.out 2))
      go_ret
      exact ⟨by first | rfl | (simp [errW_none, errW_some] <;> rfl) | (simp [*, errW_none, errW_some] <;> rfl), by repeat (first | (with_reducible first | exact HB.out | apply below_alloc | apply pw_below_drewN | apply below_drew1 | refine below_set ?_ GE102.out) | exact HB.out)⟩
    · rw [if_neg c5] at H
      have c5b0 : (a1_0 == 0) = false := beq_eq_false_iff_ne.mpr c5
      have c5b1 : (a1_0 != 0) = true := bne_iff_ne.mpr c5
      obtain rfl := Option.some.inj H
      go_enter Try.func92, Try.ntmps92
      go_wp2_with (first | ((with_reducible refine gate_dst (N := 3) rfl ?_); refine box_event ?hg (N := 3) ?hd (cs := #[.int .u8 a1_0, .int .i64 a1_1, .string a1_2]) (t := 39) ?hr ?_; (case hd => rfl); (case hg => rfl); (case hr => first | (go_simp; done) | (go_simp; rfl)); intro gb102 hg w13 hbox hb; have n0_ := Aside0.mk (below_step (by repeat (first | (with_reducible first | exact HB.out | apply below_alloc | apply pw_below_drewN | apply below_drew1) | exact HB.out)) hb); have n1_ := Aside0.mk (hbox); have n2_ := Aside0.mk ((by rw [hg]; exact (below_size (by repeat (first | (with_reducible first | exact HB.out | apply below_alloc | apply pw_below_drewN | apply below_drew1) | exact HB.out))) : w.heap.size ≤ gb102)); have n3_ := Aside0.mk ((by rw [hg]; exact (below_size (by repeat (first | (with_reducible first | exact HB.out | apply below_alloc | apply pw_below_drewN | apply below_drew1) | exact HB.out))) : w.heap.size ≤ gb102)); clear HB; have HB := n0_; have BK102 := n1_; have GW102 := n2_; have GE102 := n3_; clear n0_ n1_ n2_ n3_; clear hb hbox hg; have hcz14_0 : w13.cell? ⟨gb102, 0, none⟩ = some (.int .u8 a1_0) := (blk_cell BK102.out 0).trans rfl; have hcz14_1 : w13.cell? ⟨gb102, 1, none⟩ = some (.int .i64 a1_1) := (blk_cell BK102.out 1).trans rfl; have hcz14_2 : w13.cell? ⟨gb102, 2, none⟩ = some (.string a1_2) := (blk_cell BK102.out 2).trans rfl; have hfz14_0 := blk_frozen BK102.out 0; have hfz14_1 := blk_frozen BK102.out 1; have hfz14_2 := blk_frozen BK102.out 2) | ((with_reducible refine gate_dst (N := 9) rfl ?_); refine Kd.R_lit k39 _ 39 ?hg (N := 9) ?hd (xs := ([(⟨a1_0, a1_1, a1_2⟩ : S39)] : List (S39))) (inner := [.int .u8 a1_0, .int .i64 a1_1, .string a1_2]) (ok := fun _ => True) (okp := fun _ => True) ?hr ?hp (fun _ hk => hk) trivial (Below.refl _ _) (Nat.le_refl _) (by simp) ?_; (case hd => rfl); (case hg => rfl); (case hr => first | (go_simp; done) | (go_simp; rfl)); (case hp => exact (Reps.c3 (show Kd.M k39 _ _ _ (⟨a1_0, a1_1, a1_2⟩ : S39) [.int .u8 a1_0, .int .i64 a1_1, .string a1_2] from (k39_mkM _ _ _ (⟨a1_0, a1_1, a1_2⟩ : S39) )) (Reps.none _ _))); intro v104 w15 ho16 hb hg_ hnew_; clear hg_ hnew_; (first | rw [← Ny103.out] at ho16 | (simp only [Int.reduceToNat] at ho16; rw [← Ny103.out] at ho16)); have n0_ := Aside0.mk (Kd.R_lower (Kd.R_newB ho16 (g := gb102) (o := .cells #[.int .u8 a1_0, .int .i64 a1_1, .string a1_2] 39 (0, 0)) (by (with_reducible repeat (first | refine blk_drewN ?_ _ | refine blk_drew ?_ | refine blk_alloc ?_ _)); exact BK102.out)) (below_size (by repeat (first | (with_reducible first | exact HB.out | apply below_alloc | apply pw_below_drewN | apply below_drew1 | refine below_set ?_ GE102.out) | exact HB.out)))); have n1_ := Aside0.mk (blk_below (g := gb102) (o := .cells #[.int .u8 a1_0, .int .i64 a1_1, .string a1_2] 39 (0, 0)) (by (with_reducible repeat (first | refine blk_drewN ?_ _ | refine blk_drew ?_ | refine blk_alloc ?_ _)); exact BK102.out) hb); have n2_ := Aside0.mk (below_step (by repeat (first | (with_reducible first | exact HB.out | apply below_alloc | apply pw_below_drewN | apply below_drew1 | refine below_set ?_ GE102.out) | exact HB.out)) hb); clear BK102; clear HB; have HO105 := n0_; have BK102 := n1_; have HB := n2_; clear n0_ n1_ n2_; clear hb ho16; obtain ⟨Ao17, co17, eo17⟩ := Kd.R_slice HO105.out; subst eo17) | ((with_reducible refine gate_callee (f := 30) rfl ?_); refine goesL_ (some 10) rfl rfl Try.func30 (by kernel_rfl) rfl #[.slice none 0 0, .slice Ao17 y103.length co17] rfl (by (try simp only [List.map_toArray, List.map_cons, List.map_nil]); first | done | rfl | (simp only [List.length_drop, List.length_take]; rfl)) ?_; (refine (key_Append.calls _ _ ([] : List Int) _ _ y103 t106 t107 _ ?side1 ?side2 ?side3 ?side4 A3.out).mono ?_); (case side1 => exact Kd.C_nil _ _); (case side2 => exact Nat.le_refl _); (case side3 => repeat (first | exact (Kd.R_reads' HO105.out).2.2 | (with_reducible refine Kd.C_alloc ?_ _) | (with_reducible refine Kd.C_drewN ?_ _) | (with_reducible refine Kd.C_drew ?_))); (case side4 => exact (Kd.R_reads' HO105.out).2.1); rintro e w18 ⟨v108, rfl, ho0, hb⟩; refine ⟨_, rfl, ?_⟩; have n0_ := Aside0.mk (Kd.R_below (by (with_reducible repeat (first | apply Kd.R_alloc | apply Kd.R_drewN | apply Kd.R_drew)); exact HO105.out) hb); have n1_ := Aside0.mk (Kd.R_lower ho0 (below_size (by repeat (first | (with_reducible first | exact HB.out | apply below_alloc | apply pw_below_drewN | apply below_drew1 | refine below_set ?_ GE102.out) | exact HB.out)))); have n2_ := Aside0.mk (blk_below (g := gb102) (o := .cells #[.int .u8 a1_0, .int .i64 a1_1, .string a1_2] 39 (0, 0)) (by (with_reducible repeat (first | refine blk_drewN ?_ _ | refine blk_drew ?_ | refine blk_alloc ?_ _)); exact BK102.out) hb); have n3_ := Aside0.mk (below_step (by repeat (first | (with_reducible first | exact HB.out | apply below_alloc | apply pw_below_drewN | apply below_drew1 | refine below_set ?_ GE102.out) | exact HB.out)) hb); clear HO105; clear BK102; clear HB; have HO105 := n0_; have HO109 := n1_; have BK102 := n2_; have HB := n3_; clear n0_ n1_ n2_ n3_; (try clear hb); (try clear hb2); (try clear hk); (try clear hi); (try clear ho0); have hcz19_0 : w18.cell? ⟨gb102, 0, none⟩ = some (.int .u8 a1_0) := (blk_cell BK102.out 0).trans rfl; have hcz19_1 : w18.cell? ⟨gb102, 1, none⟩ = some (.int .i64 a1_1) := (blk_cell BK102.out 1).trans rfl; have hcz19_2 : w18.cell? ⟨gb102, 2, none⟩ = some (.string a1_2) := (blk_cell BK102.out 2).trans rfl; have hfz19_0 := blk_frozen BK102.out 0; have hfz19_1 := blk_frozen BK102.out 1; have hfz19_2 := blk_frozen BK102.out 2))
      go_ret
      exact ⟨by first | rfl | (simp [errW_none, errW_some] <;> rfl) | (simp [*, errW_none, errW_some] <;> rfl), by repeat (first | (with_reducible first | exact HB.out | apply below_alloc | apply pw_below_drewN | apply below_drew1 | refine below_set ?_ GE102.out) | exact HB.out)⟩
  · rw [if_neg c4] at H
    have c4b0 : (t107 == 0) = false := beq_eq_false_iff_ne.mpr c4
    have c4b1 : (t107 != 0) = true := bne_iff_ne.mpr c4
    obtain rfl := Option.some.inj H
    go_enter Try.func92, Try.ntmps92
    go_wp2_with (first | ((with_reducible refine gate_dst (N := 3) rfl ?_); refine box_event ?hg (N := 3) ?hd (cs := #[.int .u8 a1_0, .int .i64 a1_1, .string a1_2]) (t := 39) ?hr ?_; (case hd => rfl); (case hg => rfl); (case hr => first | (go_simp; done) | (go_simp; rfl)); intro gb102 hg w20 hbox hb; have n0_ := Aside0.mk (below_step (by repeat (first | (with_reducible first | exact HB.out | apply below_alloc | apply pw_below_drewN | apply below_drew1) | exact HB.out)) hb); have n1_ := Aside0.mk (hbox); have n2_ := Aside0.mk ((by rw [hg]; exact (below_size (by repeat (first | (with_reducible first | exact HB.out | apply below_alloc | apply pw_below_drewN | apply below_drew1) | exact HB.out))) : w.heap.size ≤ gb102)); have n3_ := Aside0.mk ((by rw [hg]; exact (below_size (by repeat (first | (with_reducible first | exact HB.out | apply below_alloc | apply pw_below_drewN | apply below_drew1) | exact HB.out))) : w.heap.size ≤ gb102)); clear HB; have HB := n0_; have BK102 := n1_; have GW102 := n2_; have GE102 := n3_; clear n0_ n1_ n2_ n3_; clear hb hbox hg; have hcz21_0 : w20.cell? ⟨gb102, 0, none⟩ = some (.int .u8 a1_0) := (blk_cell BK102.out 0).trans rfl; have hcz21_1 : w20.cell? ⟨gb102, 1, none⟩ = some (.int .i64 a1_1) := (blk_cell BK102.out 1).trans rfl; have hcz21_2 : w20.cell? ⟨gb102, 2, none⟩ = some (.string a1_2) := (blk_cell BK102.out 2).trans rfl; have hfz21_0 := blk_frozen BK102.out 0; have hfz21_1 := blk_frozen BK102.out 1; have hfz21_2 := blk_frozen BK102.out 2) | ((with_reducible refine gate_dst (N := 9) rfl ?_); refine Kd.R_lit k39 _ 39 ?hg (N := 9) ?hd (xs := ([(⟨a1_0, a1_1, a1_2⟩ : S39)] : List (S39))) (inner := [.int .u8 a1_0, .int .i64 a1_1, .string a1_2]) (ok := fun _ => True) (okp := fun _ => True) ?hr ?hp (fun _ hk => hk) trivial (Below.refl _ _) (Nat.le_refl _) (by simp) ?_; (case hd => rfl); (case hg => rfl); (case hr => first | (go_simp; done) | (go_simp; rfl)); (case hp => exact (Reps.c3 (show Kd.M k39 _ _ _ (⟨a1_0, a1_1, a1_2⟩ : S39) [.int .u8 a1_0, .int .i64 a1_1, .string a1_2] from (k39_mkM _ _ _ (⟨a1_0, a1_1, a1_2⟩ : S39) )) (Reps.none _ _))); intro v104 w22 ho23 hb hg_ hnew_; clear hg_ hnew_; (first | rw [← Ny103.out] at ho23 | (simp only [Int.reduceToNat] at ho23; rw [← Ny103.out] at ho23)); have n0_ := Aside0.mk (Kd.R_lower (Kd.R_newB ho23 (g := gb102) (o := .cells #[.int .u8 a1_0, .int .i64 a1_1, .string a1_2] 39 (0, 0)) (by (with_reducible repeat (first | refine blk_drewN ?_ _ | refine blk_drew ?_ | refine blk_alloc ?_ _)); exact BK102.out)) (below_size (by repeat (first | (with_reducible first | exact HB.out | apply below_alloc | apply pw_below_drewN | apply below_drew1 | refine below_set ?_ GE102.out) | exact HB.out)))); have n1_ := Aside0.mk (blk_below (g := gb102) (o := .cells #[.int .u8 a1_0, .int .i64 a1_1, .string a1_2] 39 (0, 0)) (by (with_reducible repeat (first | refine blk_drewN ?_ _ | refine blk_drew ?_ | refine blk_alloc ?_ _)); exact BK102.out) hb); have n2_ := Aside0.mk (below_step (by repeat (first | (with_reducible first | exact HB.out | apply below_alloc | apply pw_below_drewN | apply below_drew1 | refine below_set ?_ GE102.out) | exact HB.out)) hb); clear BK102; clear HB; have HO105 := n0_; have BK102 := n1_; have HB := n2_; clear n0_ n1_ n2_; clear hb ho23; obtain ⟨Ao24, co24, eo24⟩ := Kd.R_slice HO105.out; subst eo24) | ((with_reducible refine gate_callee (f := 30) rfl ?_); refine goesL_ (some 10) rfl rfl Try.func30 (by kernel_rfl) rfl #[.slice none 0 0, .slice Ao24 y103.length co24] rfl (by (try simp only [List.map_toArray, List.map_cons, List.map_nil]); first | done | rfl | (simp only [List.length_drop, List.length_take]; rfl)) ?_; (refine (key_Append.calls _ _ ([] : List Int) _ _ y103 t106 t107 _ ?side1 ?side2 ?side3 ?side4 A3.out).mono ?_); (case side1 => exact Kd.C_nil _ _); (case side2 => exact Nat.le_refl _); (case side3 => repeat (first | exact (Kd.R_reads' HO105.out).2.2 | (with_reducible refine Kd.C_alloc ?_ _) | (with_reducible refine Kd.C_drewN ?_ _) | (with_reducible refine Kd.C_drew ?_))); (case side4 => exact (Kd.R_reads' HO105.out).2.1); rintro e w25 ⟨v108, rfl, ho0, hb⟩; refine ⟨_, rfl, ?_⟩; have n0_ := Aside0.mk (Kd.R_below (by (with_reducible repeat (first | apply Kd.R_alloc | apply Kd.R_drewN | apply Kd.R_drew)); exact HO105.out) hb); have n1_ := Aside0.mk (Kd.R_lower ho0 (below_size (by repeat (first | (with_reducible first | exact HB.out | apply below_alloc | apply pw_below_drewN | apply below_drew1 | refine below_set ?_ GE102.out) | exact HB.out)))); have n2_ := Aside0.mk (blk_below (g := gb102) (o := .cells #[.int .u8 a1_0, .int .i64 a1_1, .string a1_2] 39 (0, 0)) (by (with_reducible repeat (first | refine blk_drewN ?_ _ | refine blk_drew ?_ | refine blk_alloc ?_ _)); exact BK102.out) hb); have n3_ := Aside0.mk (below_step (by repeat (first | (with_reducible first | exact HB.out | apply below_alloc | apply pw_below_drewN | apply below_drew1 | refine below_set ?_ GE102.out) | exact HB.out)) hb); clear HO105; clear BK102; clear HB; have HO105 := n0_; have HO109 := n1_; have BK102 := n2_; have HB := n3_; clear n0_ n1_ n2_ n3_; (try clear hb); (try clear hb2); (try clear hk); (try clear hi); (try clear ho0)))
    go_ret
    exact ⟨by first | rfl | (simp [errW_none, errW_some] <;> rfl) | (simp [*, errW_none, errW_some] <;> rfl), by repeat (first | (with_reducible first | exact HB.out | apply below_alloc | apply pw_below_drewN | apply below_drew1 | refine below_set ?_ GE102.out) | exact HB.out)⟩

end Go.Proofs.Ytlmcefhpnfoahaa.P
end

section
namespace Go.Proofs.Ytlmcefhpnfoahaa.P
open Go.RowKit Go.Proofs.YtlmcefhpnfoahaaW.PrintWords Go.Proofs.YtlmcefhpnfoahaaW.PrintLast Go.Proofs.YtlmcefhpnfoahaaW.PrintMore
set_option linter.unusedVariables false
set_option linter.unusedSimpArgs false

theorem colMay_f (t : Int) (x : S39) (hn : okNum x = true) (hs : x.f2.size ≤ 400000) : column_may.f t x.f0 x.f1 x.f2 = some (rowMay t x) := by
  have h := rowMay_f t x hn hs
  unfold row_may.f at h
  unfold column_may.f
  exact h
set_option maxRecDepth 100000 in
set_option maxHeartbeats 1600000 in
theorem clo91 (W : World) (b : Nat) (t : Int) (x : S39) (hn : okNum x = true) (hs : x.f2.size ≤ 400000) (hb : W.cell? ⟨b, 0, none⟩ = some (.int .u8 t)) :
    Calls Try.prog 91 #[.agg #[.int .u8 x.f0, .int .i64 x.f1, .string x.f2], .pointer (some ⟨b, 0, none⟩)] W fun e w' => e = .returned (.bool (!rowMay t x)) ∧ Below W.heap.size W w' := by
  have hb' := cell_new hb (.cells #[.int .u8 x.f0, .int .i64 x.f1, .string x.f2] 39)
  have HM := Aside0.mk (colMay_f t x hn hs)
  have HB := Aside0.mk (show Below W.heap.size W (W.alloc (.cells #[.int .u8 x.f0, .int .i64 x.f1, .string x.f2] 39)) from below_alloc (Below.refl _ _) _)
  have HS := Aside0.mk (show W.heap.size ≤ (W.alloc (.cells #[.int .u8 x.f0, .int .i64 x.f1, .string x.f2] 39)).heap.size by simp)
  clear hn hs
  go_enter Try.func91, Try.ntmps91
  go_wp2_with (go_at_call 92; refine (column_may.calls t x.f0 x.f1 x.f2 _ _ HM.out).mono ?_; rintro e w1 ⟨rfl, hk⟩; have HK := Aside0.mk (below_then HB.out HS.out hk); clear hk)
  go_ret
  exact ⟨rfl, HK.out⟩
end Go.Proofs.Ytlmcefhpnfoahaa.P
end

section
namespace Go.Proofs.Ytlmcefhpnfoahaa.P
open Go.RowKit Go.Proofs.YtlmcefhpnfoahaaW.PrintWords Go.Proofs.YtlmcefhpnfoahaaW.PrintLast Go.Proofs.YtlmcefhpnfoahaaW.PrintMore
attribute [local go_sem] max2_int min2_int max_two min_two max_three min_three max_four min_four   -- for this text's walks alone
set_option linter.unusedVariables false
set_option linter.unusedSimpArgs false

def column_Put_2.f (a0_0 : Int) (a0_1 : Int) (a0_2 : ByteArray) : Option (Bool) := some (a0_0 == 0)
set_option maxHeartbeats 8000000 in
set_option maxRecDepth 100000 in
theorem column_Put_2.calls (a0_0 : Int) (a0_1 : Int) (a0_2 : ByteArray) (r : Bool) (w : World) (h : column_Put_2.f a0_0 a0_1 a0_2 = some r) :
    Calls Try.prog 95 #[.agg #[.int .u8 a0_0, .int .i64 a0_1, .string a0_2]] w fun e w' => e = .returned (.bool r) ∧ Below w.heap.size w w' := by
  have hu39 := Try.underlying39
  have HB := Aside0.mk (Below.refl w.heap.size w)
  have H : (some (a0_0 == 0)) = some r := h
  clear h
  obtain rfl := Option.some.inj H
  go_enter Try.func95, Try.ntmps95
  go_wp2_with (first | ((with_reducible refine gate_dst (N := 1) rfl ?_); refine box_event ?hg (N := 1) ?hd (cs := #[.int .u8 a0_0, .int .i64 a0_1, .string a0_2]) (t := 39) ?hr ?_; (case hd => rfl); (case hg => rfl); (case hr => first | (go_simp; done) | (go_simp; rfl)); intro gb102 hg w2 hbox hb; have n0_ := Aside0.mk (below_step (by repeat (first | (with_reducible first | exact HB.out | apply below_alloc | apply pw_below_drewN | apply below_drew1) | exact HB.out)) hb); have n1_ := Aside0.mk (hbox); have n2_ := Aside0.mk ((by rw [hg]; exact (below_size (by repeat (first | (with_reducible first | exact HB.out | apply below_alloc | apply pw_below_drewN | apply below_drew1) | exact HB.out))) : w.heap.size ≤ gb102)); have n3_ := Aside0.mk ((by rw [hg]; exact (below_size (by repeat (first | (with_reducible first | exact HB.out | apply below_alloc | apply pw_below_drewN | apply below_drew1) | exact HB.out))) : w.heap.size ≤ gb102)); clear HB; have HB := n0_; have BK102 := n1_; have GW102 := n2_; have GE102 := n3_; clear n0_ n1_ n2_ n3_; clear hb hbox hg; have hcz3_0 : w2.cell? ⟨gb102, 0, none⟩ = some (.int .u8 a0_0) := (blk_cell BK102.out 0).trans rfl; have hcz3_1 : w2.cell? ⟨gb102, 1, none⟩ = some (.int .i64 a0_1) := (blk_cell BK102.out 1).trans rfl; have hcz3_2 : w2.cell? ⟨gb102, 2, none⟩ = some (.string a0_2) := (blk_cell BK102.out 2).trans rfl; have hfz3_0 := blk_frozen BK102.out 0; have hfz3_1 := blk_frozen BK102.out 1; have hfz3_2 := blk_frozen BK102.out 2))
  go_ret
  exact ⟨by first | rfl | (simp [errW_none, errW_some] <;> rfl) | (simp [*, errW_none, errW_some] <;> rfl), by repeat (first | (with_reducible first | exact HB.out | apply below_alloc | apply pw_below_drewN | apply below_drew1 | refine below_set ?_ GE102.out) | exact HB.out)⟩

end Go.Proofs.Ytlmcefhpnfoahaa.P
end

section
namespace Go.Proofs.Ytlmcefhpnfoahaa.P
open Go.RowKit Go.Proofs.YtlmcefhpnfoahaaW.PrintWords Go.Proofs.YtlmcefhpnfoahaaW.PrintLast Go.Proofs.YtlmcefhpnfoahaaW.PrintMore
set_option linter.unusedVariables false
set_option linter.unusedSimpArgs false

/-- The index of the first value that p holds of, counted from i; or -1. -/
def fidx (p : S39 → Bool) : List S39 → Nat → Int
  | [], _ => -1
  | x :: t, i => if p x then (i : Int) else fidx p t (i + 1)
theorem fidx_drop (p : S39 → Bool) (l : List S39) (i : Nat) (h : i < l.length) : fidx p (l.drop i) i = if p (rd_T39 l i) then (i : Int) else fidx p (l.drop (i + 1)) (i + 1) := by
  rw [List.drop_eq_getElem_cons h, rdT_get h]; rfl
theorem fidx_end (p : S39 → Bool) (l : List S39) (i : Nat) (h : l.length ≤ i) : fidx p (l.drop i) i = -1 := by
  rw [List.drop_of_length_le h]; rfl
theorem fidx_range (p : S39 → Bool) : ∀ (l : List S39) (i : Nat), fidx p l i = -1 ∧ l.any p = false ∨ ((i : Int) ≤ fidx p l i ∧ fidx p l i < (i : Int) + l.length ∧ l.any p = true) := by
  intro l
  induction l with
  | nil => intro i; exact Or.inl ⟨rfl, rfl⟩
  | cons x t ih =>
    intro i
    unfold fidx
    rw [List.any_cons, List.length_cons]
    by_cases h : p x = true
    · right; rw [if_pos h, h]; refine ⟨by omega, by omega, rfl⟩
    · rw [if_neg h, Bool.eq_false_iff.mpr h, Bool.false_or]
      rcases ih (i + 1) with ⟨h1, h2⟩ | ⟨h1, h2, h3⟩
      · exact Or.inl ⟨h1, h2⟩
      · exact Or.inr ⟨by omega, by omega, h3⟩
set_option maxRecDepth 100000 in
set_option maxHeartbeats 1600000 in
theorem index_91 (p : S39 → Bool) (cap : Value) (A : Option Addr) (c : Nat) (l : List S39) (hm : l.length ≤ 4611686018427387904) (w : World) (hr : Kd.C k39 w A l.length l) (HIS : Aside0 (∀ W : World, Below w.heap.size w W → ∀ x ∈ l, Calls Try.prog 91 #[.agg #[.int .u8 x.f0, .int .i64 x.f1, .string x.f2], cap] W fun e w' => e = .returned (.bool (p x)) ∧ Below W.heap.size W w')) :
    Calls Try.prog 139 #[.slice A l.length c, .func (.func 91) #[] #[cap]] w fun e w' => e = .returned (.int .i64 (fidx p l 0)) ∧ Below w.heap.size w w' := by
  have HR := Aside0.mk hr
  have HB1 := Aside0.mk (Below.refl w.heap.size w)
  clear hr
  obtain ⟨r, hr⟩ : ∃ r, r = fidx p l 0 := ⟨_, rfl⟩
  have HF := Aside0.mk hr
  rw [← hr]
  clear hr
  go_enter Try.func139, Try.ntmps139
  go_wp2
  go_loopw [5, 8] (fun v5 v8 W => ∃ k : Nat, k ≤ l.length ∧ v8 = .int .i64 k ∧ Aside0 (r = fidx p (l.drop k) k) ∧ Aside0 (Below w.heap.size w W)) (fun _ v8 _ => l.length - (intOf v8).toNat)
  case atStart => exact ⟨0, Nat.zero_le _, rfl, HF, HB1⟩
  case round =>
    clear HF HB1
    obtain ⟨k, hk, rfl, HF, HB⟩ := hrel
    by_cases hlt : k < l.length
    · have hkn : (k : Int) < (l.length : Int) := by omega
      have HC := Aside0.mk (Kd.C_below HR.out HB.out)
      have MI := Aside0.mk (HIS.out wr HB.out _ (rdT_mem hlt))
      have HD := Aside0.mk (fidx_drop p l k hlt)
      obtain ⟨ad, e, h0, h1, h2⟩ := at_T39 HC.out (k : Int) (by omega) (by omega)
      subst e
      rw [Int.toNat_natCast] at h0 h1 h2
      obtain ⟨q, hq⟩ : ∃ q, q = p (rd_T39 l k) := ⟨_, rfl⟩
      rw [← hq] at MI HD
      clear hq
      cases q with
      | true =>
        have HE : Aside0 (r = (k : Int)) := ⟨by rw [HF.out, HD.out]; rfl⟩
        clear HF HD
        obtain rfl := HE.out
        go_wp2_with (go_at_call 91; refine MI.out.mono ?_; rintro e wq ⟨rfl, hb⟩; have HB2 := Aside0.mk (below_then HB.out HB.out.size hb); clear hb)
        go_ret
        exact ⟨rfl, HB2.out⟩
      | false =>
        have HE : Aside0 (r = fidx p (l.drop (k + 1)) (k + 1)) := ⟨by rw [HF.out, HD.out]; rfl⟩
        clear HF HD
        go_wp2_with (go_at_call 91; refine MI.out.mono ?_; rintro e wq ⟨rfl, hb⟩; have HB2 := Aside0.mk (below_then HB.out HB.out.size hb); clear hb)
        go_roundw
        case rel => exact ⟨k + 1, by omega, by go_num, HE, HB2⟩
        case measure => simp [intOf]; omega
    · obtain rfl : k = l.length := by omega
      have HE : Aside0 (r = -1) := ⟨by rw [HF.out, fidx_end p l _ (Nat.le_refl _)]⟩
      clear HF
      obtain rfl := HE.out
      go_wp2
      go_ret
      exact ⟨rfl, HB.out⟩
set_option maxRecDepth 100000 in
set_option maxHeartbeats 1600000 in
theorem index_95 (p : S39 → Bool) (A : Option Addr) (c : Nat) (l : List S39) (hm : l.length ≤ 4611686018427387904) (w : World) (hr : Kd.C k39 w A l.length l) (HIS : Aside0 (∀ W : World, Below w.heap.size w W → ∀ x ∈ l, Calls Try.prog 95 #[.agg #[.int .u8 x.f0, .int .i64 x.f1, .string x.f2]] W fun e w' => e = .returned (.bool (p x)) ∧ Below W.heap.size W w')) :
    Calls Try.prog 139 #[.slice A l.length c, .func (.func 95) #[] #[]] w fun e w' => e = .returned (.int .i64 (fidx p l 0)) ∧ Below w.heap.size w w' := by
  have HR := Aside0.mk hr
  have HB1 := Aside0.mk (Below.refl w.heap.size w)
  clear hr
  obtain ⟨r, hr⟩ : ∃ r, r = fidx p l 0 := ⟨_, rfl⟩
  have HF := Aside0.mk hr
  rw [← hr]
  clear hr
  go_enter Try.func139, Try.ntmps139
  go_wp2
  go_loopw [5, 8] (fun v5 v8 W => ∃ k : Nat, k ≤ l.length ∧ v8 = .int .i64 k ∧ Aside0 (r = fidx p (l.drop k) k) ∧ Aside0 (Below w.heap.size w W)) (fun _ v8 _ => l.length - (intOf v8).toNat)
  case atStart => exact ⟨0, Nat.zero_le _, rfl, HF, HB1⟩
  case round =>
    clear HF HB1
    obtain ⟨k, hk, rfl, HF, HB⟩ := hrel
    by_cases hlt : k < l.length
    · have hkn : (k : Int) < (l.length : Int) := by omega
      have HC := Aside0.mk (Kd.C_below HR.out HB.out)
      have MI := Aside0.mk (HIS.out wr HB.out _ (rdT_mem hlt))
      have HD := Aside0.mk (fidx_drop p l k hlt)
      obtain ⟨ad, e, h0, h1, h2⟩ := at_T39 HC.out (k : Int) (by omega) (by omega)
      subst e
      rw [Int.toNat_natCast] at h0 h1 h2
      obtain ⟨q, hq⟩ : ∃ q, q = p (rd_T39 l k) := ⟨_, rfl⟩
      rw [← hq] at MI HD
      clear hq
      cases q with
      | true =>
        have HE : Aside0 (r = (k : Int)) := ⟨by rw [HF.out, HD.out]; rfl⟩
        clear HF HD
        obtain rfl := HE.out
        go_wp2_with (go_at_call 95; refine MI.out.mono ?_; rintro e wq ⟨rfl, hb⟩; have HB2 := Aside0.mk (below_then HB.out HB.out.size hb); clear hb)
        go_ret
        exact ⟨rfl, HB2.out⟩
      | false =>
        have HE : Aside0 (r = fidx p (l.drop (k + 1)) (k + 1)) := ⟨by rw [HF.out, HD.out]; rfl⟩
        clear HF HD
        go_wp2_with (go_at_call 95; refine MI.out.mono ?_; rintro e wq ⟨rfl, hb⟩; have HB2 := Aside0.mk (below_then HB.out HB.out.size hb); clear hb)
        go_roundw
        case rel => exact ⟨k + 1, by omega, by go_num, HE, HB2⟩
        case measure => simp [intOf]; omega
    · obtain rfl : k = l.length := by omega
      have HE : Aside0 (r = -1) := ⟨by rw [HF.out, fidx_end p l _ (Nat.le_refl _)]⟩
      clear HF
      obtain rfl := HE.out
      go_wp2
      go_ret
      exact ⟨rfl, HB.out⟩
set_option maxRecDepth 100000 in
set_option maxHeartbeats 1600000 in
theorem contains_91 (p : S39 → Bool) (cap : Value) (A : Option Addr) (c : Nat) (l : List S39) (hm : l.length ≤ 4611686018427387904) (w : World) (hr : Kd.C k39 w A l.length l) (HIS : Aside0 (∀ W : World, Below w.heap.size w W → ∀ x ∈ l, Calls Try.prog 91 #[.agg #[.int .u8 x.f0, .int .i64 x.f1, .string x.f2], cap] W fun e w' => e = .returned (.bool (p x)) ∧ Below W.heap.size W w')) :
    Calls Try.prog 90 #[.slice A l.length c, .func (.func 91) #[] #[cap]] w fun e w' => e = .returned (.bool (l.any p)) ∧ Below w.heap.size w w' := by
  have MI := Aside0.mk (index_91 p cap A c l hm w hr HIS)
  have hd : decide (fidx p l 0 ≥ 0) = l.any p := by
    rcases fidx_range p l 0 with ⟨h1, h2⟩ | ⟨h1, h2, h3⟩
    · rw [h1, h2]; rfl
    · rw [h3]; exact decide_eq_true h1
  have HD := Aside0.mk hd
  clear hr HIS hd
  obtain ⟨r, hr⟩ : ∃ r, r = fidx p l 0 := ⟨_, rfl⟩
  rw [← hr] at MI HD
  clear hr
  go_enter Try.func90, Try.ntmps90
  go_wp2_with (go_at_call 139; refine MI.out.mono ?_; rintro e w1 ⟨rfl, hb⟩; have HB := Aside0.mk hb; clear hb)
  go_ret
  exact ⟨by rw [← HD.out]; rfl, HB.out⟩
end Go.Proofs.Ytlmcefhpnfoahaa.P
end

section
namespace Go.Proofs.Ytlmcefhpnfoahaa.P
open Go.RowKit Go.Proofs.YtlmcefhpnfoahaaW.PrintWords Go.Proofs.YtlmcefhpnfoahaaW.PrintLast Go.Proofs.YtlmcefhpnfoahaaW.PrintMore
set_option linter.unusedVariables false
set_option linter.unusedSimpArgs false

/-- The ways of columns, by types. -/
def cwaysMap : Array MapEntry := #[⟨.int .u8 1, .agg #[.func (.func 133) #[] #[], .func (.func 134) #[] #[]], 0⟩, ⟨.int .u8 2, .agg #[.func (.func 135) #[] #[], .func (.func 136) #[] #[]], 1⟩, ⟨.int .u8 3, .agg #[.func (.func 137) #[] #[], .func (.func 138) #[] #[]], 2⟩]
set_option maxHeartbeats 800000 in
theorem cways_any (w : World) : Calls Try.prog 89 #[] w fun e w' => e = .returned (.map (some w.heap.size)) ∧ w' = w.alloc (.map cwaysMap 3) := by
  have hmm := @run_makeMap Try.prog
  have i1 := map_store_new (P := Try.prog) w Try.underlying115 Try.underlying5 #[] 0 1 (.agg #[.func (.func 133) #[] #[], .func (.func 134) #[] #[]]) rfl
  have i2 := map_store_new (P := Try.prog) w Try.underlying115 Try.underlying5 #[⟨.int .u8 1, .agg #[.func (.func 133) #[] #[], .func (.func 134) #[] #[]], 0⟩] 1 2 (.agg #[.func (.func 135) #[] #[], .func (.func 136) #[] #[]]) rfl
  have i3 := map_store_new (P := Try.prog) w Try.underlying115 Try.underlying5 #[⟨.int .u8 1, .agg #[.func (.func 133) #[] #[], .func (.func 134) #[] #[]], 0⟩, ⟨.int .u8 2, .agg #[.func (.func 135) #[] #[], .func (.func 136) #[] #[]], 1⟩] 2 3 (.agg #[.func (.func 137) #[] #[], .func (.func 138) #[] #[]]) rfl
  go_enter Try.func89, Try.ntmps89
  go_wp2
  go_ret
  exact ⟨rfl, rfl⟩
end Go.Proofs.Ytlmcefhpnfoahaa.P
end

section
namespace Go.Proofs.Ytlmcefhpnfoahaa.P
open Go.RowKit Go.Proofs.YtlmcefhpnfoahaaW.PrintWords Go.Proofs.YtlmcefhpnfoahaaW.PrintLast Go.Proofs.YtlmcefhpnfoahaaW.PrintMore
set_option linter.unusedVariables false
set_option linter.unusedSimpArgs false

theorem add0 (g j : Nat) : (Addr.add ⟨g, 0, none⟩ j) = ⟨g, j, none⟩ := by unfold Addr.add; split <;> simp_all
theorem below_setCells {B g : Nat} {w0 : World} (hg : B ≤ g) : ∀ (Z : List Value) (o : Nat) (W : World), Below B w0 W → Below B w0 (W.setCells g o Z)
  | [], _, _, h => h
  | v :: Z, o, W, h => below_setCells hg Z (o + 1) _ (h.setCell hg v)
theorem zeros39 (n : Nat) : (Builtin.zeroCells #[.int .u8 0, .int .i64 0, .string ⟨#[]⟩] n).toList.length = 3 * n ∧ ∀ v ∈ (Builtin.zeroCells #[.int .u8 0, .int .i64 0, .string ⟨#[]⟩] n).toList, v.oneCell' = true := by
  refine ⟨by simp [Builtin.zeroCells]; omega, fun v hv => ?_⟩
  unfold Builtin.zeroCells at hv
  rw [Array.mem_toList_iff, Array.mem_map] at hv
  obtain ⟨i, _, rfl⟩ := hv
  have h3 : i % (#[Value.int .u8 0, .int .i64 0, .string ⟨#[]⟩] : Array Value).size = 0 ∨ i % (#[Value.int .u8 0, .int .i64 0, .string ⟨#[]⟩] : Array Value).size = 1 ∨ i % (#[Value.int .u8 0, .int .i64 0, .string ⟨#[]⟩] : Array Value).size = 2 := by
    show i % 3 = 0 ∨ i % 3 = 1 ∨ i % 3 = 2
    omega
  rcases h3 with h | h | h <;> rw [h] <;> rfl
theorem run_clear39 (hv : ∀ w, (zeroValue 39).run Try.prog w = .ok (.agg #[.int .u8 0, .int .i64 0, .string ⟨#[]⟩]) w) (W : World) (g o n c : Nat) (hn : 0 < n) (hc : ∀ j, j < 3 * n → (W.cell? ⟨g, o + j, none⟩).isSome = true) (hf : ∀ j, j < 3 * n → W.frozen? ⟨g, o + j, none⟩ = false) :
    ∃ Z : List Value, Z.length = 3 * n ∧ ∀ ty, (Builtin.clear_ #[23] ty #[.slice (some ⟨g, o, none⟩) n c]).run Try.prog W = .ok (.tuple #[]) (W.setCells g o Z) := by
  obtain ⟨z1, z2⟩ := zeros39 n
  obtain ⟨Z, hZ⟩ : ∃ Z, Z = (Builtin.zeroCells #[.int .u8 0, .int .i64 0, .string ⟨#[]⟩] n).toList := ⟨_, rfl⟩
  rw [← hZ] at z1 z2
  refine ⟨Z, z1, fun ty => ?_⟩
  have hst := run_storeCells_cells (P := Try.prog) g o Z 0 W (by rw [z1]; simpa using hc) (by rw [z1]; simpa using hf) z2
  simp only [Nat.add_zero] at hst
  have hcl : (Value.agg #[.int .u8 0, .int .i64 0, .string ⟨#[]⟩]).cells = #[.int .u8 0, .int .i64 0, .string ⟨#[]⟩] := by rfl
  obtain ⟨m, rfl⟩ : ∃ m, n = m + 1 := ⟨n - 1, by omega⟩
  simp [Builtin.clear_, run_underlying Try.underlying23, hv, hcl, ← hZ, hst]
/-- The head of a row whose tail is written over. -/
theorem C_head {W : World} {g n : Nat} {M : List S39} (h : Kd.C k39 W (some ⟨g, 0, none⟩) n M) (i : Nat) (hi : i ≤ n) (Z : List Value) : Kd.C k39 (W.setCells g (3 * i) Z) (some ⟨g, 0, none⟩) (M.take i).length (M.take i) := by
  have hl : M.length = n := h.1
  subst hl
  have ht := Kd.C_take h hi
  have hl2 : (M.take i).length = i := by rw [List.length_take]; omega
  refine ⟨rfl, ht.2.1, fun hp => ?_⟩
  obtain ⟨ad, e, hc⟩ := ht.2.2 hp
  refine ⟨ad, e, fun j p hj => ?_⟩
  obtain ⟨c, hs, hr, hcell⟩ := hc j p hj
  have hjl : j < (M.take i).length := (List.getElem?_eq_some_iff.1 hj).1
  injection e with e
  subst e
  refine ⟨c, hs, by obtain rfl := k39_open hr; exact k39_mk _ _, fun t u hu => ?_⟩
  have htl : t < c.length := (List.getElem?_eq_some_iff.1 hu).1
  have hs3 : c.length = 3 := hs
  rw [World.cell?_setCells_out g Z (3 * i) W _ (fun _ _ => Or.inl ?_)]
  · exact hcell t u hu
  · have e2 : (Addr.add ⟨g, 0, none⟩ (j * k39.sz + t)).off = j * 3 + t := by
      rw [show k39.sz = 3 from rfl, add0]
    rw [e2]
    omega
theorem C_cell {W : World} {g n : Nat} {M : List S39} (h : Kd.C k39 W (some ⟨g, 0, none⟩) n M) (j : Nat) (hj : j < 3 * n) : (W.cell? ⟨g, j, none⟩).isSome = true := by
  have hl : M.length = n := h.1
  obtain ⟨ad, e, hc⟩ := h.2.2 (by omega)
  injection e with e
  subst e
  obtain ⟨c, hs, hr, hcell⟩ := hc (j / 3) _ (List.getElem?_eq_getElem (by omega))
  have hs3 : c.length = 3 := hs
  have := hcell (j % 3) _ (List.getElem?_eq_getElem (by omega))
  rw [show k39.sz = 3 from rfl, show j / 3 * 3 + j % 3 = j by omega] at this
  have e2 : (Addr.add ⟨g, 0, none⟩ j) = ⟨g, j, none⟩ := add0 g j
  rw [e2] at this
  rw [this]; rfl
end Go.Proofs.Ytlmcefhpnfoahaa.P
end

section
namespace Go.Proofs.Ytlmcefhpnfoahaa.P
open Go.RowKit Go.Proofs.YtlmcefhpnfoahaaW.PrintWords Go.Proofs.YtlmcefhpnfoahaaW.PrintLast Go.Proofs.YtlmcefhpnfoahaaW.PrintMore
set_option linter.unusedVariables false
set_option linter.unusedSimpArgs false

structure DInv (l M : List S39) (i k : Nat) : Prop where
  len : M.length = l.length
  lt : i < k
  le : k ≤ l.length
  head : M.take i = marksOf (l.take k)
  tail : M.drop k = l.drop k
theorem DInv.val {l M : List S39} {i k : Nat} (h : DInv l M i k) (hk : k < l.length) : rd_T39 M (k : Int) = rd_T39 l (k : Int) := by
  have hk2 : k < M.length := by rw [h.len]; exact hk
  have e := h.tail
  rw [List.drop_eq_getElem_cons hk, List.drop_eq_getElem_cons hk2] at e
  rw [rdT_get hk, rdT_get hk2]
  injection e
theorem DInv.tail' {l M : List S39} {i k : Nat} (h : DInv l M i k) (hk : k < l.length) : M.drop (k + 1) = l.drop (k + 1) := by
  have e := h.tail
  have : (M.drop k).drop 1 = (l.drop k).drop 1 := by rw [e]
  rwa [List.drop_drop, List.drop_drop] at this
theorem marks_take (l : List S39) (k : Nat) (hk : k < l.length) : marksOf (l.take (k + 1)) = marksOf (l.take k) ++ (if (rd_T39 l (k : Int)).f0 = 0 then [] else [rd_T39 l (k : Int)]) := by
  unfold marksOf
  rw [List.take_succ_eq_append_getElem hk, List.filter_append, rdT_get hk]
  congr 1
  by_cases h : l[k].f0 = 0 <;> simp [h, nulV]
theorem DInv.skip {l M : List S39} {i k : Nat} (h : DInv l M i k) (hk : k < l.length) (hx : (rd_T39 l (k : Int)).f0 = 0) : DInv l M i (k + 1) :=
  ⟨h.len, by have := h.lt; omega, hk, by rw [marks_take l k hk, if_pos hx, List.append_nil]; exact h.head, h.tail' hk⟩
theorem DInv.keep {l M : List S39} {i k : Nat} (h : DInv l M i k) (hk : k < l.length) (hx : (rd_T39 l (k : Int)).f0 ≠ 0) : DInv l (M.set i (rd_T39 l (k : Int))) (i + 1) (k + 1) := by
  have hi := h.lt
  have hl := h.len
  refine ⟨by rw [List.length_set]; exact hl, by omega, hk, ?_, ?_⟩
  · rw [marks_take l k hk, if_neg hx, ← h.head, List.take_set, List.take_succ_eq_append_getElem (by omega), List.set_append_right _ _ (by rw [List.length_take]; omega)]
    congr 1
    rw [List.length_take, Nat.min_eq_left (by omega), Nat.sub_self]
    rfl
  · rw [List.drop_set_of_lt (by omega)]
    exact h.tail' hk
theorem fidx_head : ∀ (l : List S39) (s i : Nat), fidx (fun x => x.f0 == 0) l s = ((s + i : Nat) : Int) → i < l.length ∧ l.take i = marksOf (l.take (i + 1)) := by
  intro l
  induction l with
  | nil => intro s i h; unfold fidx at h; omega
  | cons x t ih =>
    intro s i h
    unfold fidx at h
    by_cases hx : (x.f0 == 0) = true
    · rw [if_pos hx] at h
      obtain rfl : i = 0 := by omega
      refine ⟨by simp, ?_⟩
      simp [marksOf, nulV, hx]
    · rw [if_neg hx] at h
      rcases fidx_range (fun x => x.f0 == 0) t (s + 1) with ⟨h1, _⟩ | ⟨h1, _, _⟩
      · omega
      · obtain ⟨i, rfl⟩ : ∃ j, i = j + 1 := ⟨i - 1, by omega⟩
        obtain ⟨h3, h4⟩ := ih (s + 1) i (by omega)
        refine ⟨by simp; omega, ?_⟩
        have hf : (x.f0 == 0) = false := Bool.eq_false_iff.mpr hx
        rw [List.take_succ_cons, List.take_succ_cons, h4]
        simp [marksOf, nulV, hf]
theorem DInv.start {l : List S39} {i : Nat} (h : fidx (fun x => x.f0 == 0) l 0 = (i : Int)) : DInv l l i (i + 1) := by
  obtain ⟨h1, h2⟩ := fidx_head l 0 i (by omega)
  exact ⟨rfl, by omega, h1, h2, rfl⟩
theorem DInv.done {l M : List S39} {i : Nat} (h : DInv l M i l.length) : M.take i = marksOf l := by
  rw [h.head, List.take_length]
theorem marks_none (l : List S39) (h : l.any (fun x => x.f0 == 0) = false) : marksOf l = l := by
  unfold marksOf
  rw [List.filter_eq_self]
  intro x hx
  rw [List.any_eq_false] at h
  have := h x hx
  simpa [nulV] using this
end Go.Proofs.Ytlmcefhpnfoahaa.P
end

section
namespace Go.Proofs.Ytlmcefhpnfoahaa.P
open Go.RowKit Go.Proofs.YtlmcefhpnfoahaaW.PrintWords Go.Proofs.YtlmcefhpnfoahaaW.PrintLast Go.Proofs.YtlmcefhpnfoahaaW.PrintMore
set_option linter.unusedVariables false
set_option linter.unusedSimpArgs false

theorem zeroV39 (w : World) : (zeroValue 39).run Try.prog w = .ok (.agg #[.int .u8 0, .int .i64 0, .string ⟨#[]⟩]) w := by
  obtain ⟨i0, hi, hzz⟩ := Option.map_eq_some_iff.1 info39
  simp only [Prod.mk.injEq] at hzz
  simp [zeroValue, typeInfo, hi, hzz.1, Result.andThen]
theorem cut_from39 (g n c i : Nat) (hi : i < n) (hc : n ≤ c) (W : World) : (Instr.slice 23 (.slice (some ⟨g, 0, none⟩) n c) (some (.int .i64 (i : Int))) none none).run Try.prog W = .ok (.slice (some ⟨g, 3 * i, none⟩) (n - i) (c - i)) W := by
  obtain ⟨i0, h0, hzz⟩ := Option.map_eq_some_iff.1 info39
  simp only [Prod.mk.injEq] at hzz
  rw [Go.Proofs.YtlmcefhpnfoahaaW.PrintWords.cut_from 23 39 .i64 Try.underlying23 h0 3 hzz.2.1 (some ⟨g, 0, none⟩) n c (i : Int) (by omega) (by omega) W, Int.toNat_natCast, if_neg (by omega)]
  rw [Option.map_some, add0, Nat.mul_comm]
theorem cut_to39 (g n c i : Nat) (hi : i ≤ n) (hc : n ≤ c) (W : World) : (Instr.slice 23 (.slice (some ⟨g, 0, none⟩) n c) none (some (.int .i64 (i : Int))) none).run Try.prog W = .ok (.slice (some ⟨g, 0, none⟩) i c) W := by
  obtain ⟨i0, h0, hzz⟩ := Option.map_eq_some_iff.1 info39
  rw [Go.Proofs.YtlmcefhpnfoahaaW.PrintWords.cut_to 23 39 .i64 Try.underlying23 h0 (some ⟨g, 0, none⟩) n c (i : Int) (by omega) (by omega) hc W, Int.toNat_natCast]
set_option maxRecDepth 100000 in
set_option maxHeartbeats 1600000 in
theorem delete_95 {B : Nat} {w0 W : World} {v : Value} {l : List S39} (hO : Own k39 39 B w0 W v l) (hl : l.length ≤ 1000000) :
    Calls Try.prog 93 #[v, .func (.func 95) #[] #[]] W fun e w' => ∃ A c, e = .returned (.slice A (marksOf l).length c) ∧ (marksOf l).length ≤ c ∧ Kd.C k39 w' A (marksOf l).length (marksOf l) ∧ Below B w0 w' := by
  have HO := Aside0.mk hO
  obtain ⟨A, n, c, e, hn, hc, hC⟩ := hO.sl'
  subst e
  obtain rfl : n = l.length := hn.out
  have MI := Aside0.mk (index_95 (fun x => x.f0 == 0) A c l (by omega) W hC.out ⟨fun W' _ x _ => column_Put_2.calls x.f0 x.f1 x.f2 _ W' rfl⟩)
  clear hO hn hC
  rcases fidx_range (fun x => x.f0 == 0) l 0 with ⟨h1, h2⟩ | ⟨h1, h2, h3⟩
  · have HN := Aside0.mk (marks_none l h2)
    rw [h1] at MI
    clear h1 h2
    go_enter Try.func93, Try.ntmps93
    go_wp2_with (go_at_call 139; refine MI.out.mono ?_; rintro e w1 ⟨rfl, hb⟩; have HO1 := Aside0.mk (HO.out.step hb); clear hb)
    go_ret
    rw [HN.out]
    exact ⟨A, c, rfl, hc, (Kd.R_reads' HO1.out.r).2.2, HO1.out.b⟩
  · obtain ⟨i0, hi0⟩ : ∃ i : Nat, fidx (fun x => x.f0 == 0) l 0 = (i : Int) := ⟨(fidx (fun x => x.f0 == 0) l 0).toNat, by omega⟩
    have HS := Aside0.mk (DInv.start hi0)
    rw [hi0] at MI
    have hlen : 0 < l.length := by omega
    have hib : i0 < l.length := by omega
    clear h1 h2 h3 hi0
    obtain ⟨g, c', e', gb, gl, cells, hcs⟩ := Kd.R_form HO.out.r hlen
    injection e' with e1 _ e3
    subst e1
    clear e3 gl hcs
    have GB := Aside0.mk gb
    clear gb
    have hne1 : ((i0 : Int) == -1) = false := beq_eq_false_iff_ne.2 (by omega)
    go_enter Try.func93, Try.ntmps93
    go_wp2_with (go_at_call 139; refine MI.out.mono ?_; rintro e w1 ⟨rfl, hb⟩; have HO1 := Aside0.mk (HO.out.step hb); clear hb)
    go_loopw [5, 6, 7] (fun v5 v6 v7 wr => ∃ (i k : Nat) (M : List S39), v5 = .int .i64 i ∧ v6 = .int .i64 k ∧ Aside0 (DInv l M i k) ∧ Aside0 (Own k39 39 B w0 wr (.slice (some ⟨g, 0, none⟩) l.length c) M)) (fun _ v6 _ _ => l.length - (intOf v6).toNat)
    case atStart => exact ⟨i0, i0 + 1, l, rfl, by go_num, HS, HO1⟩
    case round =>
      clear HS HO1 MI HO hne1
      obtain ⟨i, k, M, rfl, rfl, HD, HO⟩ := hrel
      have hik := HD.out.lt
      have hkl := HD.out.le
      have hM := HD.out.len
      have HC := Aside0.mk (Kd.R_reads' HO.out.r).2.2
      by_cases hlt : k < l.length
      · have hkn : (k : Int) < (l.length : Int) := by omega
        obtain ⟨ad, e, h0, h1, h2⟩ := at_T39 HC.out (k : Int) (by omega) (by omega)
        cases e
        rw [Int.toNat_natCast] at h0 h1 h2
        simp only [add_plain] at h0 h1 h2
        rw [HD.out.val hlt] at h0 h1 h2
        have HX := Aside0.mk (HD.out.keep hlt)
        have HY := Aside0.mk (HD.out.skip hlt)
        obtain ⟨x, hx⟩ : ∃ x, x = rd_T39 l (k : Int) := ⟨_, rfl⟩
        rw [← hx] at h0 h1 h2 HX HY
        clear hx
        obtain ⟨q, hq⟩ : ∃ q, q = (x.f0 == 0) := ⟨_, rfl⟩
        have MC := Aside0.mk (column_Put_2.calls x.f0 x.f1 x.f2 q (wr.alloc (.cells #[.int .u8 x.f0, .int .i64 x.f1, .string x.f2] 39)) (by rw [hq]; rfl))
        have HQ := Aside0.mk hq
        clear hq
        cases q with
        | true =>
          have HE : Aside0 (DInv l M i (k + 1)) := ⟨HY.out (by have := HQ.out; simpa using this.symm)⟩
          clear HX HY HD HC
          go_wp2_with (go_at_call 95; refine MC.out.mono ?_; rintro e wq ⟨rfl, hb⟩; have HO2 := Aside0.mk ((HO.out.alloc _).step hb); clear hb)
          go_roundw
          case rel => exact ⟨i, k + 1, M, rfl, by go_num, HE, HO2⟩
          case measure => simp [intOf]; omega
        | false =>
          have HE : Aside0 (DInv l (M.set i x) (i + 1) (k + 1)) := ⟨HX.out (by have := HQ.out; simpa using this.symm)⟩
          clear HX HY HD HC
          go_wp2_with (go_at_call 95; refine MC.out.mono ?_; rintro e wq ⟨rfl, hb⟩; have b0 := box_at hb 0 rfl; have b1 := box_at hb 1 rfl; have b2 := box_at hb 2 rfl; have HO2 := Aside0.mk ((HO.out.alloc _).step hb); clear hb; obtain ⟨g5, c5, e5, gb5, gl5, cells5, hc5⟩ := Kd.R_form HO2.out.r (by omega); (injection e5 with e51 e52 e53); (injection e51 with e51); (injection e51 with e51); subst e51; clear e52 e53 gb5 gl5; obtain ⟨ad5, e6, y0, y1, y2⟩ := at_T39 (Kd.R_reads' HO2.out.r).2.2 (i : Int) (by omega) (by omega); cases e6; rw [Int.toNat_natCast] at y0 y1 y2; simp only [add_plain] at y0 y1 y2; have z0 := blk_frozen hc5 (i * 3); have z1 := blk_frozen hc5 (i * 3 + 1); have z2 := blk_frozen hc5 (i * 3 + 2); clear hc5)
          go_roundw
          case rel => exact ⟨i + 1, k + 1, M.set i x, by go_num, by go_num, HE, ⟨HO2.out.putV i (by omega) x⟩⟩
          case measure => simp [intOf]; omega
      · obtain rfl : k = l.length := by omega
        have HE := Aside0.mk HD.out.done
        clear HD
        obtain ⟨g5, c5, e5, gb5, gl5, cells5, hc5⟩ := Kd.R_form HO.out.r (by omega)
        injection e5 with e51 e52 e53
        injection e51 with e51
        injection e51 with e51
        subst e51
        clear e52 e53 gb5 gl5
        obtain ⟨Z, hZ, hcl⟩ := run_clear39 zeroV39 wr g (3 * i) (l.length - i) (c - i) (by omega) (fun j hj => C_cell HC.out (3 * i + j) (by omega)) (fun j hj => blk_frozen hc5 _)
        have k1 := cut_from39 g l.length c i (by omega) hc
        have k2 := cut_to39 g l.length c i (by omega) hc
        have HK := Aside0.mk (C_head HC.out i (by omega) Z)
        have HB := Aside0.mk (below_setCells GB.out Z (3 * i) wr HO.out.b)
        have hti : (M.take i).length = i := by rw [List.length_take]; omega
        rw [HE.out] at HK hti
        clear hc5 hZ HC HO
        go_wp2
        go_ret
        rw [hti] at HK
        exact ⟨some ⟨g, 0, none⟩, c, rfl, by omega, HK.out, HB.out⟩
end Go.Proofs.Ytlmcefhpnfoahaa.P
end

section
namespace Go.Proofs.Ytlmcefhpnfoahaa.P
open Go.RowKit Go.Proofs.YtlmcefhpnfoahaaW.PrintWords Go.Proofs.YtlmcefhpnfoahaaW.PrintLast Go.Proofs.YtlmcefhpnfoahaaW.PrintMore
set_option linter.unusedVariables false
set_option linter.unusedSimpArgs false

set_option maxRecDepth 100000 in
set_option maxHeartbeats 1600000 in
theorem clone_calls (A : Option Addr) (c : Nat) (l : List S39) (hl : l.length ≤ 1000000) (w : World) (hr : Kd.C k39 w A l.length l) :
    Calls Try.prog 94 #[.slice A l.length c] w fun e w' => ∃ v, e = .returned v ∧ Own k39 39 w.heap.size w w' v l := by
  have HR := Aside0.mk hr
  have HB1 := Aside0.mk (Below.refl w.heap.size w)
  have hu39 := Try.underlying39
  have hq := fun (a : Option Addr) (n : Nat) (W : World) => Lib.run_eql_slice_nil (P := Try.prog) W 23 39 a n c 0 0 Try.underlying23
  clear hr
  cases A with
  | none =>
    have h0 : l = [] := by
      apply Classical.byContradiction
      intro h0
      have : 0 < l.length := List.length_pos_iff.mpr h0
      obtain ⟨ad, e, _⟩ := at_T39 HR.out 0 (by omega) (by omega)
      cases e
    subst h0
    go_enter Try.func94, Try.ntmps94
    go_wp2
    go_ret
    exact ⟨_, rfl, Own.start k39 39 w⟩
  | some ad =>
    go_enter Try.func94, Try.ntmps94
    go_wp2_with (first
      | (at_builtin; refine (Own.empty k39 39 HB1.out (Nat.le_refl _)).vals rfl _ _ (Kd.C_below HR.out (below_alloc (Below.refl _ _) _)) rfl rfl rfl (by simp; omega) ?_; intro v1 w1 ho hg hat; have HO := Aside0.mk (ho.of_cast (List.nil_append l)); clear ho hg hat))
    go_ret
    exact ⟨_, rfl, HO.out⟩
end Go.Proofs.Ytlmcefhpnfoahaa.P
end

section
namespace Go.Proofs.Ytlmcefhpnfoahaa.P
open Go.RowKit Go.Proofs.YtlmcefhpnfoahaaW.PrintWords Go.Proofs.YtlmcefhpnfoahaaW.PrintLast Go.Proofs.YtlmcefhpnfoahaaW.PrintMore
attribute [local go_sem] Oper.semAt_some
set_option linter.unusedVariables false
set_option linter.unusedSimpArgs false

/-- The runs of changes: how many, and which. -/
def runsL : Nat → Int → Int → Int → List Int → List (Nat × Int)
  | n, _, _, c, [] => if 0 < n then [(n, c)] else []
  | n, last, step, c, v :: r => if 0 < n ∧ wrap64 (wrap64 (v - last) - step) ≠ c then (n, c) :: runsL 1 v (wrap64 (v - last)) (wrap64 (wrap64 (v - last) - step)) r else runsL (n + 1) v (wrap64 (v - last)) (wrap64 (wrap64 (v - last) - step)) r
def encR2 (l : List (Nat × Int)) : List Int := l.flatMap fun x => enc2 x.1 x.2
theorem encR2_runs : ∀ (l : List Int) (n : Nat) (last step c : Int), encR2 (runsL n last step c l) = runsTo n c (chg last step l) := by
  intro l
  induction l with
  | nil =>
    intro n last step c
    show encR2 (if 0 < n then [(n, c)] else []) = (if 0 < n then enc2 n c else [])
    by_cases h : 0 < n
    · rw [if_pos h, if_pos h]; simp [encR2]
    · rw [if_neg h, if_neg h]; rfl
  | cons v r ih =>
    intro n last step c
    unfold runsL chg runsTo
    split
    · rw [← ih]; rfl
    · rw [ih]
theorem runsL_le : ∀ (l : List Int) (n : Nat) (last step c : Int), (runsL n last step c l).length ≤ l.length + 1 := by
  intro l
  induction l with
  | nil => intro n last step c; unfold runsL; split <;> simp
  | cons v r ih =>
    intro n last step c
    unfold runsL
    split
    · have := ih 1 v (wrap64 (v - last)) (wrap64 (wrap64 (v - last) - step)); simp only [List.length_cons]; omega
    · have := ih (n + 1) v (wrap64 (v - last)) (wrap64 (wrap64 (v - last) - step)); simp only [List.length_cons]; omega
theorem encR2_snoc (pre : List (Nat × Int)) (x : Nat × Int) : encR2 (pre ++ [x]) = (encR2 pre ++ vput 9 x.1) ++ vput 9 (zig x.2) := by
  simp [encR2, enc2]
theorem encR2_le (l : List (Nat × Int)) : (encR2 l).length ≤ 20 * l.length := by
  induction l with
  | nil => simp [encR2]
  | cons x t ih =>
    have e : encR2 (x :: t) = enc2 x.1 x.2 ++ encR2 t := rfl
    have h1 := vput_length 9 (x.1 : Int)
    have h2 := vput_length 9 (zig x.2)
    rw [e]
    unfold enc2
    simp only [List.length_append, List.length_cons]
    omega
theorem rd_drop (l : List Int) (k : Nat) (h : k < l.length) : l.drop k = rd l (k : Int) :: l.drop (k + 1) := by
  rw [List.drop_eq_getElem_cons h]
  simp [rd, List.getD_eq_getElem?_getD, h]

/-- A run that is not too long. -/
abbrev Run := { x : Nat × Int // x.1 ≤ 2000000 ∧ i64 x.2 }
theorem vals_snoc (pre : List Run) (x : Run) : (pre ++ [x]).map Subtype.val = pre.map Subtype.val ++ [x.1] := by simp
set_option maxRecDepth 100000 in
set_option maxHeartbeats 2000000 in
/-- The iterator that ints.runs hands back. -/
theorem runs1_in (n : Nat) (hn : 1 ≤ n) (l Bs : Nat) (A : Option Addr) (c : Nat) (zs : List Int) (hzl : zs.length ≤ 1000000) (w0 : World) (hC : Aside0 (Kd.C (Kd.int .i64) w0 A zs.length zs)) (J Jx : List Run → World → Prop) (all : List (Nat × Int)) (hall : Aside0 (all = runsL 0 0 0 0 zs))
    (hY : Aside0 (∀ pre x W, J pre W → pre.length < all.length → YieldAt Fence.wide (n - 1) Try.prog l #[.int .i64 (x.1.1 : Int), .int .i64 x.1.2] W fun e W' =>
      (e = .returned (.bool true) ∧ J (pre ++ [x]) W' ∧ Below w0.heap.size W W') ∨ (e = .returned (.bool false) ∧ Jx (pre ++ [x]) W')))
    (W : World) (hb0 : Aside0 (Below w0.heap.size w0 W)) (hBs : W.cell? ⟨Bs, 0, none⟩ = some (.slice A zs.length c)) (h0 : Aside0 (J [] W)) :
    CallsIn Fence.wide n Try.prog 154 #[.func (.yield l) #[] #[], .pointer (some ⟨Bs, 0, none⟩)] W fun e W' => (∃ v, e = .returned v) ∧
      ((∃ ys, ys.map Subtype.val = all ∧ J ys W') ∨ (∃ pre, True ∧ Jx pre W')) := by
  refine callsIn_of_wp Try.func154 rfl trivial ?_ rfl
  simp only [Try.ntmps154, List.size_toArray, List.length_cons, List.length_nil, Nat.reduceAdd, Nat.reduceSub, Array.replicate_succ, Array.replicate_zero, List.push_toArray, List.append_toArray, List.nil_append, List.cons_append]
  gi_wp2
  gi_loopw [3, 4, 5, 6, 8, 9, 10, 13] (fun v3 v4 v5 v6 _ _ _ v13 wr => ∃ (k nn : Nat) (last step change : Int) (pre : List Run), i64 change ∧ k ≤ zs.length ∧ nn ≤ k ∧ v13 = .int .i64 k ∧ v3 = .int .i64 nn ∧ v4 = .int .i64 last ∧ v5 = .int .i64 step ∧ v6 = .int .i64 change ∧ Aside0 (all = pre.map Subtype.val ++ runsL nn last step change (zs.drop k)) ∧ Aside0 (J pre wr) ∧ Aside0 (Below w0.heap.size w0 wr))
    (fun _ _ _ _ _ _ _ v13 _ => zs.length - (intOf v13).toNat)
  case atStart => exact ⟨0, 0, 0, 0, 0, [], by unfold i64; omega, Nat.zero_le _, Nat.le_refl _, rfl, rfl, rfl, rfl, rfl, ⟨by rw [hall.out]; rfl⟩, h0, hb0⟩
  case round =>
    clear hall h0 hb0 hBs
    obtain ⟨k, nn, last, step, change, pre, hch, hk, hnn, rfl, rfl, rfl, rfl, rfl, hal, hJ, hB⟩ := hrel
    have HCH := Aside0.mk hch
    have HW : Aside0 (∀ a b : Int, i64 (wrap64 (a - b))) := ⟨fun a b => by unfold i64 wrap64; omega⟩
    clear hch
    by_cases hlt : k < zs.length
    · obtain ⟨ad, e, hx⟩ := Kd.at_int (Kd.C_below hC.out hB.out) (k : Int) (by omega) (by omega)
      cases e
      rw [Int.toNat_natCast] at hx
      have HD := Aside0.mk (rd_drop zs k hlt)
      change wr.cell? (ad.add k) = some (.int .i64 (rd zs (k : Int))) at hx
      obtain ⟨v, hv⟩ : ∃ v, v = rd zs (k : Int) := ⟨_, rfl⟩
      rw [← hv] at hx HD
      clear hv
      have hkn : (k : Int) < (zs.length : Int) := by omega
      by_cases hn0 : 0 < nn
      · have hn1 : (0 : Int) < (nn : Int) := by omega
        by_cases hce : wrap64 (wrap64 (v - last) - step) = change
        · have q1 : (wrap64 (wrap64 (v - last) - step) == change) = true := by rw [hce]; exact beq_self_eq_true _
          have q2 : (wrap64 (wrap64 (v - last) - step) != change) = false := by rw [hce]; exact bne_self_eq_false _
          have HE : Aside0 (all = pre.map Subtype.val ++ runsL (nn + 1) v (wrap64 (v - last)) (wrap64 (wrap64 (v - last) - step)) (zs.drop (k + 1))) := ⟨by
            have h := hal.out
            rw [HD.out] at h
            unfold runsL at h
            rw [if_neg (fun h => h.2 hce)] at h
            exact h⟩
          clear hce hal HD
          gi_wp2
          go_roundw
          case rel => exact ⟨k + 1, nn + 1, v, _, _, pre, HW.out _ _, by omega, by omega, by go_num, by go_num, rfl, rfl, rfl, HE, hJ, hB⟩
          case measure => simp [intOf]; omega
        · have q1 : (wrap64 (wrap64 (v - last) - step) == change) = false := beq_eq_false_iff_ne.mpr hce
          have q2 : (wrap64 (wrap64 (v - last) - step) != change) = true := by simp [bne, q1]
          have HE : Aside0 (all = pre.map Subtype.val ++ (nn, change) :: runsL 1 v (wrap64 (v - last)) (wrap64 (wrap64 (v - last) - step)) (zs.drop (k + 1))) := ⟨by
            have h := hal.out
            rw [HD.out] at h
            unfold runsL at h
            rw [if_pos ⟨hn0, hce⟩] at h
            exact h⟩
          obtain ⟨fn, tmps, assign, body, hy, hR⟩ := hY.out pre ⟨(nn, change), by dsimp only; omega, HCH.out⟩ wr hJ.out (by rw [HE.out]; simp)
          dsimp only at hy
          clear hce hal HD
          gi_wp2
          refine hR.mono ?_
          rintro e W3 (⟨rfl, hJ3, hk3⟩ | ⟨rfl, hJx3⟩)
          · have HJ3 := Aside0.mk hJ3
            have HB3 := Aside0.mk (hB.out.trans hk3)
            clear hJ3 hk3 hR hy
            gi_wp2
            go_roundw
            case rel => exact ⟨k + 1, 1, v, _, _, _, HW.out _ _, by omega, by omega, by go_num, by go_num, rfl, rfl, rfl, ⟨by rw [HE.out, vals_snoc, List.append_assoc]; rfl⟩, HJ3, HB3⟩
            case measure => simp [intOf]; omega
          · gi_wp2
            refine bodyPost_ret (results_none rfl _ _ _) rfl ?_
            exact ⟨⟨_, rfl⟩, .inr ⟨_, trivial, hJx3⟩⟩
      · obtain rfl : nn = 0 := by omega
        have HE : Aside0 (all = pre.map Subtype.val ++ runsL 1 v (wrap64 (v - last)) (wrap64 (wrap64 (v - last) - step)) (zs.drop (k + 1))) := ⟨by
          have h := hal.out
          rw [HD.out] at h
          unfold runsL at h
          rw [if_neg (fun h => hn0 h.1)] at h
          exact h⟩
        clear hn0 hal HD hnn
        gi_wp2
        go_roundw
        case rel => exact ⟨k + 1, 1, v, _, _, pre, HW.out _ _, by omega, by omega, by go_num, by go_num, rfl, rfl, rfl, HE, hJ, hB⟩
        case measure => simp [intOf]; omega
    · obtain rfl : k = zs.length := by omega
      have hdr : zs.drop zs.length = [] := List.drop_length
      by_cases hn0 : 0 < nn
      · have hn1 : (0 : Int) < (nn : Int) := by omega
        have HE : Aside0 (all = pre.map Subtype.val ++ [(nn, change)]) := ⟨by
          have h := hal.out
          rw [hdr] at h
          unfold runsL at h
          rw [if_pos hn0] at h
          exact h⟩
        obtain ⟨fn, tmps, assign, body, hy, hR⟩ := hY.out pre ⟨(nn, change), by dsimp only; omega, HCH.out⟩ wr hJ.out (by rw [HE.out]; simp)
        dsimp only at hy
        clear hal hdr
        gi_wp2
        refine hR.mono ?_
        rintro e W3 (⟨rfl, hJ3, hk3⟩ | ⟨rfl, hJx3⟩)
        · gi_wp2
          go_end0
          exact ⟨⟨_, rfl⟩, .inl ⟨_, (vals_snoc _ _).trans HE.out.symm, hJ3⟩⟩
        · gi_wp2
          go_end0
          exact ⟨⟨_, rfl⟩, .inr ⟨_, trivial, hJx3⟩⟩
      · obtain rfl : nn = 0 := by omega
        have HE : Aside0 (all = pre.map Subtype.val) := ⟨by
          have h := hal.out
          rw [hdr] at h
          unfold runsL at h
          rw [if_neg hn0, List.append_nil] at h
          exact h⟩
        clear hal hdr hn0
        gi_wp2
        go_end0
        exact ⟨⟨_, rfl⟩, .inl ⟨_, HE.out.symm, hJ.out⟩⟩
set_option maxHeartbeats 1000000 in
theorem runs_any (A : Option Addr) (n c : Nat) (w : World) :
    Calls Try.prog 153 #[.slice A n c] w fun e w' => e = .returned (.func (.func 154) #[] #[.pointer (some ⟨w.heap.size, 0, none⟩)]) ∧ w' = w.alloc (.cells #[.slice A n c] 122) := by
  go_enter Try.func153, Try.ntmps153
  go_wp2
  go_ret
  exact ⟨rfl, rfl⟩
/-- The row in its box, between two rounds. -/
def PutI (w : World) (pre : List Run) (W : World) : Prop :=
  (∃ v, Boxed W w.heap.size 22 v ∧ Kd.R (Kd.int .u8) 5 W w.heap.size (fun _ => True) v (encR2 (pre.map Subtype.val))) ∧ Below w.heap.size w W
theorem putI_own (w : World) (B : Nat) (hB : w.heap.size ≤ B) : OwnFrom B (PutI w) := by
  intro s X Y row hs hg hr
  obtain ⟨⟨v, hb, hk⟩, hbel⟩ := hs
  have hlt := hb.lt
  refine ⟨⟨v, hb.kept hg (fun e => ?_), ?_⟩, ownFrom_below (β := Unit) (n₀ := w.heap.size) (B := B) (w₀ := w) (Nat.le_refl _) hB () X Y row hbel hg hr⟩
  · obtain ⟨_, o, ho, hc⟩ := hr _ e.symm
    rw [show X.heap[w.heap.size]? = _ from hb] at ho
    injection ho with ho
    subst ho
    simp [Obj.isCells] at hc
  · have ht := Kd.R_tight rfl hk
    have := Kd.R_grown ht hg (fun k hkk e => by
      obtain ⟨cells, hcc⟩ := Kd.R_typed hk k hkk.symm
      obtain ⟨_, o, ho, hc⟩ := hr _ e.symm
      rw [hcc] at ho
      injection ho with ho
      subst ho
      simp [Obj.isCells] at hc)
    exact Kd.R_mono this (fun _ _ => trivial)
set_option maxRecDepth 100000 in
set_option maxHeartbeats 2000000 in
theorem ints_Put_any (A : Option Addr) (c : Nat) (zs : List Int) (hzl : zs.length ≤ 1000000) (w : World) (hC : Kd.C (Kd.int .i64) w A zs.length zs) :
    Calls Try.prog 151 #[.slice A zs.length c] w fun e W' => ∃ v, e = .returned v ∧ Kd.R (Kd.int .u8) 5 W' w.heap.size (fun _ => True) v (encInts zs) ∧ Below w.heap.size w W' := by
  obtain ⟨all, hall⟩ : ∃ all, all = runsL 0 0 0 0 zs := ⟨_, rfl⟩
  have HALL := Aside0.mk hall
  have HC := Aside0.mk hC
  clear hC hall
  refine (callsIn_wide (n := 5)).1 ?_
  refine callsIn_of_wp_marks Try.func151 rfl trivial ?_ rfl
  simp only [Try.ntmps151, List.size_toArray, List.length_cons, List.length_nil, Nat.reduceAdd, Nat.reduceSub, Array.replicate_succ, Array.replicate_zero, List.push_toArray, List.append_toArray, List.nil_append, List.cons_append]
  gi_wp2_with (refine ⟨trivial, ?_⟩; gi_at_call 153; refine (callsIn_wide.2 (runs_any _ _ _ _)).mono ?_; rintro e w' ⟨rfl, rfl⟩)
  have bO := Boxed.new w 22 (.slice none 0 0)
  have bN := Boxed.new (w.alloc (.cells #[.slice none 0 0] 22)) 122 (.slice A zs.length c)
  rw [World.size_alloc] at bN
  have hB0 : Below w.heap.size w ((w.alloc (.cells #[.slice none 0 0] 22)).alloc (.cells #[.slice A zs.length c] 122)) := ((Below.refl _ w).alloc (Nat.le_refl _) _).alloc (by simp) _
  have hsz : ((w.alloc (.cells #[.slice none 0 0] 22)).alloc (.cells #[.slice A zs.length c] 122)).heap.size = w.heap.size + 2 := by simp
  refine wpIn_rangeFunc_ownG (F := Fence.wide) (n := 5) rfl (by decide) (gf := 154) (lb := #[.pointer (some ⟨w.heap.size + 1, 0, none⟩)]) rfl trivial (enters_of Try.func154 (by kernel_rfl) rfl)
    (encs := fun x : Run => #[.int .i64 (x.1.1 : Int), .int .i64 x.1.2]) (Kp := Below w.heap.size) (S := fun ys => ys.map Subtype.val = all) (Sp := fun _ => True) (N := all.length) (w0 := (w.alloc (.cells #[.slice none 0 0] 22)).alloc (.cells #[.slice A zs.length c] 122))
    (fun l J Jx W hW _ _ hY h0 => runs1_in 4 (by decide) l (w.heap.size + 1) A c zs hzl w HC J Jx all HALL ⟨hY⟩ W ⟨hB0.trans (hW.mono (by rw [hsz]; omega))⟩ ((hW.cell (p := ⟨w.heap.size + 1, 0, none⟩) (by rw [hsz]; exact Nat.lt_succ_self _)).trans bN.cell) ⟨h0⟩)
    belowK_t (belowK_b (by rw [hsz]; omega)) (Below.refl _ _) (fun _ => rfl)
    (PutI w) (fun _ _ _ => False) (putI_own w _ (by rw [hsz]; omega)) (fun _ _ _ _ _ hs _ _ => hs)
    ⟨⟨_, bO.alloc _, Kd.R_nil _ _ _ _ _⟩, hB0⟩
    (fun x => { tmps := #[.slice A zs.length c, undef, .slice none 0 0, .pointer (some ⟨w.heap.size, 0, none⟩), .int .i64 (x.1.1 : Int), .int .i64 x.1.2, .slice A zs.length c, .func (.func 154) #[] #[.pointer (some ⟨w.heap.size + 1, 0, none⟩)], .int .i64 (x.1.1 : Int), .int .i64 x.1.2, undef, undef, undef, undef, undef, undef, undef, undef], defers := [] }) ?assign ?body ?done ?stop
  case assign =>
    intro l x W K hK
    gi_wp2
    exact hK
  case body =>
    rintro l pre x W ⟨⟨v, hv, hk⟩, hB⟩ hlt
    have hc := hv.cell
    have hf := hv.frozen
    have hx := x.2
    obtain ⟨xn, hxn⟩ : ∃ n, n = x.1.1 := ⟨_, rfl⟩
    obtain ⟨xc, hxc⟩ : ∃ n, n = x.1.2 := ⟨_, rfl⟩
    rw [← hxn, ← hxc] at hx ⊢
    obtain ⟨hx1, hx2⟩ := hx
    obtain ⟨L, hL⟩ : ∃ L, L = encR2 (pre.map Subtype.val) := ⟨_, rfl⟩
    have hpl := runsL_le zs 0 0 0 0
    have hel := encR2_le (pre.map Subtype.val)
    rw [← HALL.out] at hpl
    rw [List.length_map] at hel
    have HSN : Aside0 (encR2 ((pre ++ [x]).map Subtype.val) = (L ++ vput 9 (xn : Int)) ++ vput 9 (zig xc)) := ⟨by rw [vals_snoc, encR2_snoc, hL, hxn, hxc]⟩
    rw [← hL] at hk hel
    clear hL
    have HV := Aside0.mk hv
    have HB := Aside0.mk hB
    have HBS := Aside0.mk hB.size
    obtain ⟨A3, c3, e3, hc3, hC3⟩ := Kd.R_reads hk
    subst e3
    have HC3 := Aside0.mk hC3
    have hz := zig_range xc hx2.1 hx2.2
    have HZ := Aside0.mk (zig_f xc hx2.1 hx2.2)
    have hvl := vput_length 9 (xn : Int)
    obtain ⟨L1, hL1⟩ : ∃ L1, L1 = L ++ vput 9 (xn : Int) := ⟨_, rfl⟩
    have hl1 : L1.length ≤ 100000000 := by rw [hL1, List.length_append]; omega
    have HP1 := Aside0.mk (show varint_Put.f L (xn : Int) = some L1 by unfold varint_Put.f; rw [hL1]; exact if_pos ⟨by omega, by omega, by omega⟩)
    have HP2 := Aside0.mk (show varint_Put.f L1 (zig xc) = some (L1 ++ vput 9 (zig xc)) by unfold varint_Put.f; exact if_pos ⟨by omega, by omega, by omega⟩)
    rw [← hL1] at HSN
    obtain ⟨L2, hL2⟩ : ∃ L2, L2 = L1 ++ vput 9 (zig xc) := ⟨_, rfl⟩
    rw [← hL2] at HSN HP2
    have hu : IntKind.u64.wrap (xn : Int) = (xn : Int) := by show (xn : Int) % 18446744073709551616 = _; omega
    have hu2 : (xn : Int) % 18446744073709551616 = (xn : Int) := by omega
    have hu3 : (0 : Int) ≤ (xn : Int) := by omega
    clear hL1 hL2 hk hC3 hv hB hx2 hvl hz hpl hel hx1 hxn hxc
    gi_wp2_with (first
      | (refine ⟨trivial, ?_⟩; gi_at_call 80; refine (CallsIn.inRound l (callsIn_wide.2 (varint_Put.calls A3 c3 L (xn : Int) _ _ HC3.out hc3 HP1.out))).mono ?_; rintro e w2 ⟨v2, rfl, hr2, hd2⟩; clear HP1; obtain ⟨A4, c4, e4, hc4, hC4⟩ := Kd.R_reads hr2; subst e4; have HC4 := Aside0.mk hC4; have HD2 := Aside0.mk hd2; clear hr2 hd2 hC4)
      | (refine ⟨trivial, ?_⟩; gi_at_call 124; refine (CallsIn.inRound l (callsIn_wide.2 (varint_Zig.calls xc _ _ HZ.out))).mono ?_; rintro e w3 ⟨rfl, hd3⟩; have HD3 := Aside0.mk (HD2.out.trans (hd3.below.mono HD2.out.size)); have HC5 := Aside0.mk (Kd.C_below HC4.out hd3.below); clear hd3)
      | (refine ⟨trivial, ?_⟩; gi_at_call 80; refine (CallsIn.inRound l (callsIn_wide.2 (varint_Put.calls A4 c4 L1 _ _ _ HC5.out hc4 HP2.out))).mono ?_; rintro e w4 ⟨v4, rfl, hr4, hd4⟩; obtain ⟨A6, c6, e6, _, _⟩ := Kd.R_reads hr4; subst e6; have HD4 := Aside0.mk (HD3.out.trans (hd4.mono HD3.out.size)); have HR4 := Aside0.mk (Kd.R_lower hr4 (Nat.le_trans HBS.out HD3.out.size)); have bX := (HV.out.kept ((grown_of_below HD4.out none)) (by simp)); have hcX := bX.cell; have hfX := bX.frozen; clear hr4 hd4))
    exact ⟨(KeepsFrom.of_grownBy (grown_of_below HD4.out none) (by simp)).trans ((KeepsOthers.setCell _ _ _).from _), (HD4.out.mono HBS.out).setCell (p := ⟨w.heap.size, 0, none⟩) (Nat.le_refl _) _, ⟨_, bX.set _, by rw [HSN.out]; exact Kd.R_mono (Kd.R_far (p := ⟨w.heap.size, 0, none⟩) (Kd.R_tight rfl HR4.out) (fun k hk e => by dsimp only at e; subst e; exact Kd.R_ne HR4.out bX (by decide) hk) _) (fun _ _ => trivial)⟩, (HB.out.trans (HD4.out.mono HBS.out)).setCell (p := ⟨w.heap.size, 0, none⟩) (Nat.le_refl _) _⟩
  case done =>
    rintro D ys W hD hys ⟨⟨v, hv, hk⟩, hB⟩ hK
    have hc := hv.cell
    gi_wp2
    refine ⟨by simp, .inl ⟨_, _, rfl, run_takeDeferred hK, ?_⟩⟩
    have hE : encR2 (ys.map Subtype.val) = encInts zs := by rw [hys, HALL.out, encR2_runs]; rfl
    rw [hE] at hk
    have hI := putI_own w _ (Nat.le_of_eq rfl : w.heap.size ≤ w.heap.size)
    exact ⟨_, results_tmp rfl _ _ _, v, rfl, Kd.R_mono (Kd.R_grown (Kd.R_tight rfl hk) (grownBy_putObj' W D _) (fun k hkk e => by
      obtain ⟨cells, hcc⟩ := Kd.R_typed hk k hkk.symm
      injection e with e
      subst e
      rw [hcc] at hK
      injection hK with hK
      cases hK)) (fun _ _ => trivial), hB.trans (belowK_b (w := w) (Nat.le_refl _) W D _ _ (by rw [hsz] at hD; omega) hK rfl rfl)⟩
  case stop =>
    rintro D c pre W _ _ h _
    exact h.elim
def ints_Put.f (l : List Int) : Option (List Int) := if l.length ≤ 1000000 then some (encInts l) else none
theorem ints_Put.calls (A0 : Option Addr) (c0 : Nat) (l0 : List Int) (r : List Int) (w : World) (hr0 : Kd.C (Kd.int .i64) w A0 l0.length l0) (hc0 : l0.length ≤ c0) (h : ints_Put.f l0 = some r) :
    Calls Try.prog 151 #[.slice A0 l0.length c0] w fun e w' => ∃ v0_ : Value, e = .returned v0_ ∧ Kd.R (Kd.int .u8) 5 w' w.heap.size (fun _ => True) v0_ r ∧ Below w.heap.size w w' := by
  unfold ints_Put.f at h
  split at h
  · rename_i h1
    injection h with h
    subst h
    exact ints_Put_any A0 c0 l0 h1 w hr0
  · cases h
end Go.Proofs.Ytlmcefhpnfoahaa.P
end

section
namespace Go.Proofs.Ytlmcefhpnfoahaa.P
open Go.RowKit Go.Proofs.YtlmcefhpnfoahaaW.PrintWords Go.Proofs.YtlmcefhpnfoahaaW.PrintLast Go.Proofs.YtlmcefhpnfoahaaW.PrintMore
attribute [local go_sem] max2_int min2_int max_two min_two max_three min_three max_four min_four   -- for this text's walks alone
set_option linter.unusedVariables false
set_option linter.unusedSimpArgs false

def column_putNumbers.l0 : Nat → List Int → List (S39) → Int → Int → Option (List Int)
  | 0, _, _, _, _ => none
  | k + 1, x3, x6, x7, x8 => if x8 < x7 then (if 0 ≤ x8 then (if x8 < (x6.length : Int) then (if x3.length < 17592186044416 then (column_putNumbers.l0 k (x3 ++ [(rd_T39 x6 x8).f1]) x6 x7 (wrap64 (x8 + 1))) else (none)) else (none)) else (none)) else ((ints_Put.f x3).bind fun t397 => (some t397))
def column_putNumbers.f (k : Nat) (l0 : List (S39)) : Option (List Int) := column_putNumbers.l0 k ([] : List Int) l0 (l0.length : Int) 0
set_option maxHeartbeats 8000000 in
set_option maxRecDepth 100000 in
theorem column_putNumbers.calls (k : Nat) (A0 : Option Addr) (c0 : Nat) (l0 : List (S39)) (r : List Int) (w : World) (hr0 : Kd.C k39 w A0 l0.length l0) (hc0 : l0.length ≤ c0) (h : column_putNumbers.f k l0 = some r) :
    Calls Try.prog 135 #[.slice A0 l0.length c0] w fun e w' => ∃ v0_ : Value, e = .returned (v0_) ∧ Kd.R (Kd.int .u8) 5 w' w.heap.size (fun _ => True) v0_ r ∧ Below w.heap.size w w' := by
  have hu39 := Try.underlying39
  have HR0 := Aside0.mk hr0
  have HC0 := Aside0.mk hc0
  clear hr0 hc0
  have HB := Aside0.mk (Below.refl w.heap.size w)
  have H : (column_putNumbers.l0 k ([] : List Int) l0 (l0.length : Int) 0) = some r := h
  clear h
  have H' := Aside0.mk H
  clear H
  go_enter Try.func135, Try.ntmps135
  go_wp2
  go_loopg [3, 8] k (fun kq v3 v8 w' => ∃ (x3_1 : List Int) (x8_1 : Int), v8 = .int .i64 x8_1 ∧ Aside0 (column_putNumbers.l0 kq x3_1 l0 (l0.length : Int) x8_1 = some r) ∧ Aside0 (kq ≤ k) ∧ Aside0 (Kd.R (Kd.int .i64) 2 w' w.heap.size (fun _ => True) v3 x3_1) ∧ Aside0 (Below w.heap.size w w'))
  case atStart => exact ⟨(([] : List Int)), (0), (by first | rfl | (simp; done) | (simp [*]; done)), H', ⟨Nat.le_refl _⟩, ⟨by first | exact Kd.R_nil _ _ _ _ _ | exact Kd.N_nil _ _ _ _ _ | exact Kd.V_nil _ _ _ _ _ | exact Kd.Q_nil _ _ _ _ _ | exact Kd.S_nil _ _ _ _ _⟩, ⟨by repeat (first | (with_reducible first | exact HB.out | apply below_alloc | apply pw_below_drewN | apply below_drew1) | exact HB.out)⟩⟩
  case round =>
    clear H'
    try clear c1
    obtain ⟨x3_1, x8_1, rfl, HA, HK1, HO_3, HB⟩ := hrel
    cases gk with
    | zero => exact absurd HA.out (by simp [column_putNumbers.l0])
    | succ k1 =>
      have H := HA.out
      clear HA
      simp only [column_putNumbers.l0] at H
      by_cases c2 : x8_1 < (l0.length : Int)
      · rw [if_pos c2] at H
        have c2b0 : decide (x8_1 < (l0.length : Int)) = true := decide_eq_true c2
        clear c2
        by_cases c3 : 0 ≤ x8_1
        · rw [if_pos c3] at H
          have c3b0 : decide (0 ≤ x8_1) = true := decide_eq_true c3
          clear c3
          by_cases c4 : x8_1 < (l0.length : Int)
          · rw [if_pos c4] at H
            have c4b0 : decide (x8_1 < (l0.length : Int)) = true := decide_eq_true c4
            clear c4
            by_cases c5 : x3_1.length < 17592186044416
            · rw [if_pos c5] at H
              have LMc5 := Aside0.mk c5
              clear c5
              obtain ⟨y394, hy394⟩ : ∃ y_ : List Int, y_ = (x3_1 ++ [(rd_T39 l0 x8_1).f1]) := ⟨_, rfl⟩
              replace H : (column_putNumbers.l0 k1 y394 l0 (l0.length : Int) (wrap64 (x8_1 + 1))) = some r := by first | (rw [hy394]; with_reducible exact H) | (have H2_ := (Option.bind_some _ _).symm.trans H; rw [hy394]; with_reducible exact H2_) | (have H2_ := (Option.bind_some _ _).symm.trans H; with_reducible exact H2_) | with_reducible exact H | (rw [hy394]; exact H) | exact H
              have Ny394 := Aside0.mk hy394
              clear hy394
              have H' := Aside0.mk H
              clear H
              have p392 : 0 ≤ (x8_1 : Int) := of_decide_eq_true (by first | (with_reducible assumption) | assumption)
              have q392 : x8_1 < (l0.length : Int) := of_decide_eq_true (by first | (with_reducible assumption) | assumption)
              obtain ⟨ad392, e392, hx392_0, hx392_1, hx392_2⟩ := at_T39 HR0.out x8_1 p392 q392
              cases e392
              replace hx392_0 := (HB.out.cell (World.block_lt_of_cell? w _ hx392_0)).trans hx392_0
              replace hx392_1 := (HB.out.cell (World.block_lt_of_cell? w _ hx392_1)).trans hx392_1
              replace hx392_2 := (HB.out.cell (World.block_lt_of_cell? w _ hx392_2)).trans hx392_2
              replace p392 := eq_true p392
              replace q392 := eq_true q392
              go_wp2_with (first | ((with_reducible refine gate_dst (N := 5) rfl ?_); refine box_event ?hg (N := 5) ?hd (cs := #[.int .u8 0, .int .i64 0, .string (⟨#[]⟩ : ByteArray)]) (t := 39) ?hr ?_; (case hd => rfl); (case hg => rfl); (case hr => first | (go_simp; done) | (go_simp; rfl)); intro gb393 hg w6 hbox hb; have n0_ := Aside0.mk (Kd.R_below (by (with_reducible repeat (first | apply Kd.R_alloc | apply Kd.R_drewN | apply Kd.R_drew)); exact HO_3.out) hb); have n1_ := Aside0.mk (below_step (by repeat (first | (with_reducible first | exact HB.out | apply below_alloc | apply pw_below_drewN | apply below_drew1) | exact HB.out)) hb); have n2_ := Aside0.mk (hbox); have n3_ := Aside0.mk ((by rw [hg]; exact (below_size (by repeat (first | (with_reducible first | exact HB.out | apply below_alloc | apply pw_below_drewN | apply below_drew1) | exact HB.out))) : w.heap.size ≤ gb393)); have n4_ := Aside0.mk ((by rw [hg]; exact (below_size (by repeat (first | (with_reducible first | exact HB.out | apply below_alloc | apply pw_below_drewN | apply below_drew1) | exact HB.out))) : w.heap.size ≤ gb393)); clear HO_3; clear HB; have HO_3 := n0_; have HB := n1_; have BK393 := n2_; have GW393 := n3_; have GE393 := n4_; clear n0_ n1_ n2_ n3_ n4_; clear hb hbox hg; have hcz7_0 : w6.cell? ⟨gb393, 0, none⟩ = some (.int .u8 0) := (blk_cell BK393.out 0).trans rfl; have hcz7_1 : w6.cell? ⟨gb393, 1, none⟩ = some (.int .i64 0) := (blk_cell BK393.out 1).trans rfl; have hcz7_2 : w6.cell? ⟨gb393, 2, none⟩ = some (.string (⟨#[]⟩ : ByteArray)) := (blk_cell BK393.out 2).trans rfl; have hfz7_0 := blk_frozen BK393.out 0; have hfz7_1 := blk_frozen BK393.out 1; have hfz7_2 := blk_frozen BK393.out 2) | ((with_reducible refine gate_builtin (b := .append) (xs := #[.tmp 12, .tmp 15]) rfl ?_); at_builtin; refine Kd.R_append (Kd.int .i64) (w0 := w) w.heap.size rfl (.tmp 12) (.tmp 15) 122 2 (.int .i64 0) 8 rfl Try.underlying122 info2 rfl (by decide) (by omega) u3 x3_1 ((rd_T39 l0 x8_1).f1) [.int .i64 ((rd_T39 l0 x8_1).f1)] (fun _ => True) (fun _ => False) rfl (by first | (go_simp; done) | (go_simp; rfl)) ?aP (fun _ hk => hk.elim) ?aF ?aO ?aB ?aS ?aL ?_; (case aP => exact rfl); (case aB => exact (by repeat (first | (with_reducible first | exact HB.out | apply below_alloc | apply pw_below_drewN | apply below_drew1 | refine below_set ?_ GE393.out) | exact HB.out))); (case aF => exact (fun _ _ => trivial)); (case aO => exact (by (with_reducible repeat (first | apply Kd.R_alloc | apply Kd.R_drewN | apply Kd.R_drew)); exact Kd.R_mono (Kd.R_far (p := ⟨gb393, 2, none⟩) (Kd.R_far (p := ⟨gb393, 1, none⟩) (Kd.R_far (p := ⟨gb393, 0, none⟩) (Kd.R_types HO_3.out BK393.out (by decide)) (fun _ hk => hk.2) (.int .u8 ((rd_T39 l0 x8_1).f0))) (fun _ hk => hk.2) (.int .i64 ((rd_T39 l0 x8_1).f1))) (fun _ hk => hk.2) (.string ((rd_T39 l0 x8_1).f2))) (fun _ hk => trivial))); (case aS => exact (below_size (by repeat (first | (with_reducible first | exact HB.out | apply below_alloc | apply pw_below_drewN | apply below_drew1 | refine below_set ?_ GE393.out) | exact HB.out)))); (case aL => have := LMc5.out; omega); intro v395 w8 ho hb hg hat; rw [← Ny394.out] at ho; have n0_ := Aside0.mk (blk_grown (g := gb393) (o := .cells #[.int .u8 ((rd_T39 l0 x8_1).f0), .int .i64 ((rd_T39 l0 x8_1).f1), .string ((rd_T39 l0 x8_1).f2)] 39 (0, 0)) (by (with_reducible repeat (first | refine blk_drewN ?_ _ | refine blk_drew ?_ | refine blk_alloc ?_ _)); refine blk_put (cs := #[.int .u8 ((rd_T39 l0 x8_1).f0), .int .i64 ((rd_T39 l0 x8_1).f1), .string (⟨#[]⟩ : ByteArray)]) ?_ 2 _ rfl; (with_reducible repeat (first | refine blk_drewN ?_ _ | refine blk_drew ?_ | refine blk_alloc ?_ _)); refine blk_put (cs := #[.int .u8 ((rd_T39 l0 x8_1).f0), .int .i64 0, .string (⟨#[]⟩ : ByteArray)]) ?_ 1 _ rfl; (with_reducible repeat (first | refine blk_drewN ?_ _ | refine blk_drew ?_ | refine blk_alloc ?_ _)); refine blk_put (cs := #[.int .u8 0, .int .i64 0, .string (⟨#[]⟩ : ByteArray)]) ?_ 0 _ rfl; (with_reducible repeat (first | refine blk_drewN ?_ _ | refine blk_drew ?_ | refine blk_alloc ?_ _)); exact BK393.out) hg (Kd.R_ne HO_3.out BK393.out (by decide))); have n1_ := Aside0.mk (hb); have n2_ := Aside0.mk (ho); clear BK393; clear HB; clear HO_3; have BK393 := n0_; have HB := n1_; have HO396 := n2_; clear n0_ n1_ n2_; clear ho hb hg hat))
              go_roundg k1
              case measure => have := HK1.out; omega
              case rel => exact ⟨(y394), (wrap64 (x8_1 + 1)), (by first | rfl | (simp; done) | (simp [*]; done)), H', ⟨by have := HK1.out; omega⟩, ⟨by (with_reducible repeat (first | apply Kd.R_alloc | apply Kd.R_drewN | apply Kd.R_drew)); exact HO396.out⟩, ⟨by repeat (first | (with_reducible first | exact HB.out | apply below_alloc | apply pw_below_drewN | apply below_drew1 | refine below_set ?_ GE393.out) | exact HB.out)⟩⟩
            · rw [if_neg c5] at H
              exact absurd H (by simp)
          · rw [if_neg c4] at H
            exact absurd H (by simp)
        · rw [if_neg c3] at H
          exact absurd H (by simp)
      · rw [if_neg c2] at H
        have c2b0 : decide (x8_1 < (l0.length : Int)) = false := decide_eq_false c2
        clear c2
        replace H := Option.bind_eq_some_iff.mp H
        obtain ⟨t397, A90, H⟩ := H
        replace H : (some t397) = some r := H
        have A9 := Aside0.mk A90
        clear A90
        obtain rfl := Option.some.inj H
        obtain ⟨Ao10, co10, eo10⟩ := Kd.R_slice HO_3.out
        subst eo10
        go_wp2_with (first | ((with_reducible refine gate_callee (f := 151) rfl ?_); refine goesL_ (some 19) rfl rfl Try.func151 (by kernel_rfl) rfl #[.slice Ao10 x3_1.length co10] rfl (by (try simp only [List.map_toArray, List.map_cons, List.map_nil]); first | done | rfl | (simp only [List.length_drop, List.length_take]; rfl)) ?_; (with_reducible refine (ints_Put.calls _ _ x3_1 t397 _ ?side1 ?side2 A9.out).mono ?_); (case side1 => repeat (first | exact (Kd.R_reads' HO_3.out).2.2 | (with_reducible refine Kd.C_alloc ?_ _) | (with_reducible refine Kd.C_drewN ?_ _) | (with_reducible refine Kd.C_drew ?_))); (case side2 => exact (Kd.R_reads' HO_3.out).2.1); rintro e w11 ⟨v398, rfl, ho0, hb⟩; refine ⟨_, rfl, ?_⟩; have n0_ := Aside0.mk (Kd.R_below (by (with_reducible repeat (first | apply Kd.R_alloc | apply Kd.R_drewN | apply Kd.R_drew)); exact HO_3.out) hb); have n1_ := Aside0.mk (Kd.R_lower ho0 (below_size (by repeat (first | (with_reducible first | exact HB.out | apply below_alloc | apply pw_below_drewN | apply below_drew1) | exact HB.out)))); have n2_ := Aside0.mk (below_step (by repeat (first | (with_reducible first | exact HB.out | apply below_alloc | apply pw_below_drewN | apply below_drew1) | exact HB.out)) hb); clear HO_3; clear HB; have HO_3 := n0_; have HO399 := n1_; have HB := n2_; clear n0_ n1_ n2_; (try clear hb); (try clear hb2); (try clear hk); (try clear hi); (try clear ho0)))
        go_ret
        exact ⟨_, by first | rfl | (simp [errW_none, errW_some] <;> rfl) | (simp [*, errW_none, errW_some] <;> rfl), by (with_reducible repeat (first | apply Kd.R_alloc | apply Kd.R_drewN | apply Kd.R_drew)); exact HO399.out, by repeat (first | (with_reducible first | exact HB.out | apply below_alloc | apply pw_below_drewN | apply below_drew1) | exact HB.out)⟩

end Go.Proofs.Ytlmcefhpnfoahaa.P
end

section
namespace Go.Proofs.Ytlmcefhpnfoahaa.P
open Go.RowKit Go.Proofs.YtlmcefhpnfoahaaW.PrintWords Go.Proofs.YtlmcefhpnfoahaaW.PrintLast Go.Proofs.YtlmcefhpnfoahaaW.PrintMore
set_option linter.unusedVariables false
set_option linter.unusedSimpArgs false

theorem putNum_l0 (m : List S39) (hl : m.length ≤ 100000) : ∀ (d k i : Nat) (X : List Int), i + d = m.length → d < k → X.length = i → column_putNumbers.l0 k X m (m.length : Int) (i : Int) = some (encInts (X ++ (m.drop i).map S39.f1)) := by
  intro d
  induction d with
  | zero =>
    intro k i X hi hk hX
    obtain ⟨k, rfl⟩ : ∃ j, k = j + 1 := ⟨k - 1, by omega⟩
    rw [column_putNumbers.l0, if_neg (by omega), List.drop_of_length_le (by omega)]
    unfold ints_Put.f
    rw [if_pos (by omega)]
    simp
  | succ d ih =>
    intro k i X hi hk hX
    obtain ⟨k, rfl⟩ : ∃ j, k = j + 1 := ⟨k - 1, by omega⟩
    have hlt : i < m.length := by omega
    rw [column_putNumbers.l0, if_pos (by omega), if_pos (by omega), if_pos (by omega), if_pos (by omega), w64s i (by omega), ih k (i + 1) _ (by omega) (by omega) (by simp [hX]), rdT_get hlt]
    have e : (m.drop i).map S39.f1 = m[i].f1 :: (m.drop (i + 1)).map S39.f1 := by rw [List.drop_eq_getElem_cons hlt]; rfl
    rw [e, List.append_assoc]
    rfl
theorem putNum_f (m : List S39) (hl : m.length ≤ 100000) (k : Nat) (hk : m.length < k) : column_putNumbers.f k m = some (encInts (m.map S39.f1)) := by
  have := putNum_l0 m hl m.length k 0 [] (by omega) hk rfl
  unfold column_putNumbers.f
  simpa using this
/-- append(v, ys...) of bytes that are read, in a region that draws. -/
theorem bytes_step {ops : Array Oper} {o : Oper} {a : Act} {W w0 : World} {Kc : Act → World → Prop} {Q : Exit → Act → World → Prop} {B : Nat} {N : Option Tmp} {v : Value} {xs ys : List Int} {A : Option Addr} {n c : Nat} (hw : Region.wanted o (yielded ops a.tmps) = true) (hN : o.dst = N) (s x : Operand)
    (ho : o.op = .call { callee := .builtin .append, args := #[s, x], argTypes := #[22, 22] }) (hs : a.eval s = v) (hx : a.eval x = .slice A n c) (hO : Own (Kd.int .u8) 5 B w0 W v xs) (hC : Kd.C (Kd.int .u8) W A n ys) (hl : xs.length + n ≤ 140737488355328)
    (h : ∀ v1 w1, Own (Kd.int .u8) 5 B w0 w1 v1 (xs ++ ys) → Kc (a.put N v1) w1) :
    if Region.wanted o (yielded ops a.tmps) = true then Oper.wp Try.prog o a W Kc Q else Kc (a.put N undef) W := by
  subst hN
  exact Kd.R_append_rows_step (Kd.int .u8) (w0 := w0) B hw s x 22 5 (.int .u8 0) 1 ho Try.underlying22 info5 rfl (by decide) (by omega) v xs ys A n c (fun _ => True) (fun _ => False) hs hx
    hO.r hC (fun _ _ h => h) (fun _ h => h.elim) (fun _ _ => trivial) hO.b hO.s (by omega) (fun v1 w1 ho1 hb hg hat => h v1 w1 ⟨ho1, hb, by have := hO.s; have := hg.size; omega⟩)
/-- A call of a function value, in a region that draws. -/
theorem goesT_ {P : Program} {ops : Array Oper} {oi : Oper} {N : Option Tmp} {a : Act} {w : World} {K : Act → World → Prop} {Q : Exit → Act → World → Prop} {f : FuncId} {fn : Func} {ax : Array Operand} {ts : Array TypeId} {g : Operand} (hf : P.funcs[f]? = some fn) (hname : (fn.name == "runtime.NumGoroutine") = false) (hb : fn.body.isSome = true) (args : Array Value)
    (hw : Region.wanted oi (yielded ops a.tmps) = true) (hN : oi.dst = N) (hop : oi.op = .call { callee := .value g, args := ax, argTypes := ts }) (hg : a.eval g = .func (.func f) #[] #[]) (hargs : ax.map a.eval = args)
    (h : Calls P f args w fun e w' => ∃ v, e = .returned v ∧ K (a.put N v) w') : if Region.wanted oi (yielded ops a.tmps) = true then Oper.wp P oi a w K Q else K (a.put N undef) w := by
  refine call_ f args hw hN ?_ h
  have he := enters_ hf hname hb args w
  unfold execOp
  simp [hop, resolve, Deferred.ofValue, invoke, hg, hargs, he]
def GU55.T5 : Bool × List (List Nat × List Nat) := (true, [([], []), ([0], [0]), ([], []), ([1, 2], [1, 2]), ([], []), ([4], [4]), ([], []), ([5, 6, 3], [5, 6]), ([3, 7, 7], [3, 7]), ([8, 8, 0, 1, 2, 3, 4, 5, 6, 7, 8], [8]), ([9, 0, 1, 2, 3, 4, 5, 6, 7, 8, 9], [])])
def GU55.B5 : List Nat := [0, 1, 0, 7, 0, 16, 0, 127, 255, 511, 1023]
theorem GU55.tab5 : rtab .any (opsOf Try.f55 5) = GU55.T5 := by kernel_rfl
theorem GU55.bits5 : waitsOk GU55.T5.2 GU55.B5 = true := by kernel_rfl
/-- A way of columns, by its type. -/
def wayP (kind : Int) : Value := if kind = 1 then .func (.func 133) #[] #[] else if kind = 2 then .func (.func 135) #[] #[] else if kind = 3 then .func (.func 137) #[] #[] else .nilFunc
def wayG (kind : Int) : Value := if kind = 1 then .func (.func 134) #[] #[] else if kind = 2 then .func (.func 136) #[] #[] else if kind = 3 then .func (.func 138) #[] #[] else .nilFunc
def kindB (kind : Int) : Bool := decide (1 ≤ kind) && decide (kind ≤ 3)
theorem cway_look (kind : Int) (W : World) {b : Nat} (hb : W.heap[b]? = some (.map cwaysMap 3)) :
    (Instr.lookup 115 (.map (some b)) (.int .u8 kind) true).run Try.prog W = .ok (.tuple #[.agg #[wayP kind, wayG kind], .bool (kindB kind)]) W := by
  unfold wayP wayG
  by_cases h1 : kind = 1
  · subst h1; exact (map_look W Try.underlying115 Try.underlying5 hb 1 (i := 0) rfl).1
  · by_cases h2 : kind = 2
    · subst h2; exact (map_look W Try.underlying115 Try.underlying5 hb 2 (i := 1) rfl).1
    · by_cases h3 : kind = 3
      · subst h3; exact (map_look W Try.underlying115 Try.underlying5 hb 3 (i := 2) rfl).1
      · rw [if_neg h1, if_neg h2, if_neg h3, if_neg h1, if_neg h2, if_neg h3]
        have hk : kindB kind = false := by
          unfold kindB
          rw [Bool.eq_false_iff]
          intro h
          simp only [Bool.and_eq_true, decide_eq_true_eq] at h
          omega
        rw [hk]
        refine map_look_no W Try.underlying115 Try.underlying5 hb kind (by kernel_rfl) ?_
        have hm : ∀ x ∈ cwaysMap.toList, x.key = .int .u8 1 ∨ x.key = .int .u8 2 ∨ x.key = .int .u8 3 := by
          intro x hx
          simp [cwaysMap] at hx
          rcases hx with rfl | rfl | rfl <;> simp
        rcases MapKept.findNow_spec (d := .int .u8) (k := .int .u8 kind) (isKey_int _ _) cwaysMap.toList 0 (fun x hx => by rcases hm x hx with e | e | e <;> rw [e] <;> exact isKey_int _ _) with ⟨h, _⟩ | ⟨j, e, _, he, hk⟩
        · exact h
        · rcases hm e (List.mem_of_getElem? he) with e1 | e1 | e1 <;> (rw [e1] at hk; injection hk with _ hk; omega)
theorem wayP_one (kind : Int) : (wayP kind).oneCell' = true := by
  unfold wayP
  split
  · rfl
  · split
    · rfl
    · split <;> rfl
theorem wayG_one (kind : Int) : (wayG kind).oneCell' = true := by
  unfold wayG
  split
  · rfl
  · split
    · rfl
    · split <;> rfl
theorem encInts_le (l : List Int) : (encInts l).length ≤ 20 * l.length + 20 := by
  unfold encInts
  rw [← encR2_runs]
  have h1 := encR2_le (runsL 0 0 0 0 l)
  have h2 := runsL_le l 0 0 0 0
  omega
theorem encTexts_le (l : List S39) (hl : l.length ≤ 100000) (hs : ∀ x ∈ l, x.f2.size ≤ 400000) : (encTexts (l.map S39.f2)).length ≤ 1000000000000 := by
  have h1 := wdK_bytes l l.length hl hs
  have h2 := whK_bytes l l.length hl
  have ht : txK l l.length = l.map S39.f2 := by unfold txK; rw [List.take_length]
  unfold wdK at h1
  unfold whK at h2
  rw [ht] at h1 h2
  have h3 := vput_length 9 ((wordsOf [] (l.map S39.f2)).length : Int)
  unfold encTexts
  simp only [List.length_append]
  omega
theorem encMarks_le (kind : Int) (l : List S39) (hl : l.length ≤ 100000) (hs : ∀ x ∈ l, x.f2.size ≤ 400000) : (encMarks kind l).length ≤ 1000000000000 := by
  unfold encMarks
  split
  · rw [lay_length]; omega
  · split
    · have := encInts_le (l.map S39.f1); rw [List.length_map] at this; omega
    · exact encTexts_le l hl hs
/-- A column's bytes, or a refusal. -/
def putCol (kind : Int) (l : List S39) : List Int × Int := if kindB kind = true ∧ l.length ≤ 65536 ∧ fitCol kind l = true then (encCol kind l, 0) else ([], 1)
set_option maxRecDepth 100000 in
set_option maxHeartbeats 3200000 in
theorem column_Put_any (kind : Int) (A : Option Addr) (c : Nat) (l : List S39) (hl : l.length ≤ 100000) (hno : ∀ x ∈ l, okNum x = true) (hsz : ∀ x ∈ l, x.f2.size ≤ 400000) (w : World) (hr : Kd.C k39 w A l.length l) :
    Calls Try.prog 55 #[.int .u8 kind, .slice A l.length c] w fun e w' => ∃ v0_ : Value, e = .returned (.tuple #[v0_, .int .i64 (putCol kind l).2]) ∧ Kd.R (Kd.int .u8) 5 w' w.heap.size (fun _ => True) v0_ (putCol kind l).1 ∧ Below w.heap.size w w' := by
  obtain ⟨r, hR⟩ : ∃ r, r = putCol kind l := ⟨_, rfl⟩
  rw [← hR]
  have HPR := Aside0.mk hR
  have HR := Aside0.mk hr
  have HNO := Aside0.mk hno
  have HSZ := Aside0.mk hsz
  clear hr hno hsz hR
  go_enter Try.func55, Try.ntmps55
  obtain ⟨WB, hWB⟩ : ∃ W, W = (w.alloc (.cells #[.int .u8 kind] 5)).alloc (.cells #[.slice A l.length c] 23) := ⟨_, rfl⟩
  go_upto_region 1 with fail
  rw [← hWB]
  have q0 : WB.cell? ⟨w.heap.size, 0, none⟩ = some (.int .u8 kind) := by rw [hWB]; exact cell_new (cell_of_row _ _ _ _ _ _ (heap_alloc_new w _)) _
  have hq1 := cell_of_row _ (w.heap.size + 1) 0 _ _ _ (show WB.heap[w.heap.size + 1]? = some (.cells #[.slice A l.length c] 23) from by rw [hWB]; have := heap_alloc_new (w.alloc (.cells #[.int .u8 kind] 5)) (.cells #[.slice A l.length c] 23); rwa [World.size_alloc] at this)
  have HQ1 : Aside0 (WB.cell? ⟨w.heap.size + 1, 0, none⟩ = some (.slice A l.length c)) := ⟨hq1⟩
  have HBW : Aside0 (Below w.heap.size w WB) := ⟨by rw [hWB]; exact ((Below.refl _ _).alloc (Nat.le_refl _) _).alloc (by simp) _⟩
  have hs1 : w.heap.size < WB.heap.size := by rw [hWB, World.size_alloc, World.size_alloc]; omega
  clear hq1
  clear hWB
  have hsp := fun (w : World) (a : Addr) (m : Mode) => run_store Try.prog w a (wayP kind) m (wayP_one kind)
  have hsg := fun (w : World) (a : Addr) (m : Mode) => run_store Try.prog w a (wayG kind) m (wayG_one kind)
  have m1 := cway_look kind (WB.alloc (.map cwaysMap 3)).drew (b := WB.heap.size) (heap_alloc_new WB _)
  have m2 := cway_look kind ((WB.alloc (.map cwaysMap 3)).alloc (.cells #[.nilFunc, .nilFunc] 113)).drew (b := WB.heap.size) ((Below.heap_alloc _ _ _ (by simp)).trans (heap_alloc_new WB _))
  have m3 := cway_look kind ((WB.alloc (.cells #[.nilFunc, .nilFunc] 113)).alloc (.map cwaysMap 3)).drew (b := WB.heap.size + 1) (by have := heap_alloc_new (WB.alloc (.cells #[.nilFunc, .nilFunc] 113)) (.map cwaysMap 3); rwa [World.size_alloc] at this)
  go_cut [6, 7] (fun s6 s7 wx => ∃ gb : Nat, s6 = .pointer (some ⟨gb, 0, none⟩) ∧ s7 = .bool (kindB kind) ∧ Aside0 (wx.heap[gb]? = some (.cells #[wayP kind, wayG kind] 113 (0, 0))) ∧ Aside0 (Below WB.heap.size WB wx))
  case first =>
    go_region_with (go_at_call 89; refine (cways_any _).mono ?_; rintro e w' ⟨rfl, rfl⟩)
    all_goals clear m1 m2 m3 hsp hsg
    all_goals (go_wp2_with fail; go_meet)
    all_goals exact ⟨_, rfl, rfl, ⟨by first | (have := heap_alloc_new (WB.alloc (.map cwaysMap 3)) (.cells #[wayP kind, wayG kind] 113); rwa [World.size_alloc] at this) | exact (Below.heap_alloc (WB.alloc (.cells #[wayP kind, wayG kind] 113)) _ _ (by simp)).trans (heap_alloc_new WB _)⟩, ⟨below_drew (((Below.refl _ _).alloc (Nat.le_refl _) _).alloc (by simp) _)⟩⟩
  case rest =>
    obtain ⟨gb, rfl, rfl, HG, HBX⟩ := hcut
    clear m1 m2 m3 hsp hsg hs1
    have q1 := (HBX.out.cell (p := ⟨w.heap.size, 0, none⟩) (World.block_lt_of_cell? _ _ q0)).trans q0
    have q2 := (HBX.out.cell (p := ⟨w.heap.size + 1, 0, none⟩) (World.block_lt_of_cell? _ _ HQ1.out)).trans HQ1.out
    have HBC := Aside0.mk (below_then HBW.out HBW.out.size HBX.out)
    clear q0
    have hfin : ∀ w', Below w.heap.size w w' → r = ([], 1) → ∃ v0_ : Value, (Ending.returned (.tuple #[.slice none 0 0, .int .i64 1]) : Ending) = .returned (.tuple #[v0_, .int .i64 r.2]) ∧ Kd.R (Kd.int .u8) 5 w' w.heap.size (fun _ => True) v0_ r.1 ∧ Below w.heap.size w w' := fun w' hb e => by subst e; exact ⟨_, rfl, Kd.R_nil _ _ _ _ _, hb⟩
    have HFIN := Aside0.mk hfin
    clear hfin
    cases hkb : kindB kind with
    | false =>
      have hr1 := Aside0.mk (show r = ([], 1) by rw [HPR.out]; unfold putCol; rw [if_neg (fun h => by rw [hkb] at h; exact absurd h.1 (by decide))])
      clear hkb
      go_wp2
      go_ret2
      exact HFIN.out _ HBC.out hr1.out
    | true =>
      have HKB := Aside0.mk hkb
      clear hkb
      by_cases hlen : l.length ≤ 65536
      · have hl1 : (l.length : Int) ≤ 65536 := by omega
        have hany : l.any (fun x => !rowMay kind x) = !fitCol kind l := by
          unfold fitCol
          rw [List.not_all_eq_any_not]
        have M90 := Aside0.mk (contains_91 (fun x => !rowMay kind x) (.pointer (some ⟨w.heap.size, 0, none⟩)) A c l (by omega) wc (Kd.C_below HR.out HBC.out) ⟨fun W hW x hx => clo91 W w.heap.size kind x (HNO.out x hx) (HSZ.out x hx) ((hW.cell (p := ⟨w.heap.size, 0, none⟩) (World.block_lt_of_cell? _ _ q1)).trans q1)⟩)
        rw [hany] at M90
        have HLEN := Aside0.mk hlen
        clear hany hlen
        obtain ⟨q, hq⟩ : ∃ q, q = fitCol kind l := ⟨_, rfl⟩
        rw [← hq] at M90
        have HQQ := Aside0.mk hq
        clear hq
        cases q with
        | false =>
          have hr1 := Aside0.mk (show r = ([], 1) by rw [HPR.out]; unfold putCol; rw [if_neg (fun h => by rw [← HQQ.out] at h; exact absurd h.2.2 (by decide))])
          go_wp2_with (go_at_call 90; refine M90.out.mono ?_; rintro e w2 ⟨rfl, hb2⟩; have HB2 := Aside0.mk (below_then HBC.out HBC.out.size hb2); clear hb2)
          go_ret2
          exact HFIN.out _ HB2.out hr1.out
        | true =>
          have hr1 : r = (encCol kind l, 0) := by rw [HPR.out]; unfold putCol; rw [if_pos ⟨HKB.out, HLEN.out, HQQ.out.symm⟩]
          subst hr1
          have hk3 : kind = 1 ∨ kind = 2 ∨ kind = 3 := by have h := HKB.out; unfold kindB at h; simp only [Bool.and_eq_true, decide_eq_true_eq] at h; omega
          clear HFIN HPR HKB HQQ
          have HLNM := Aside0.mk (show (marksOf l).length ≤ l.length from List.length_filter_le _ _)
          have HMM : Aside0 (∀ x ∈ marksOf l, x ∈ l) := ⟨fun x hx => (List.mem_filter.mp hx).1⟩
          have HEC : Aside0 (encCol kind l = lay (fun i : Nat => nulV (rd_T39 l i)) l.length ++ encMarks kind (marksOf l)) := ⟨rfl⟩
          obtain ⟨M, hM⟩ : ∃ M, M = marksOf l := ⟨_, rfl⟩
          have HME := Aside0.mk hM
          rw [← hM] at HLNM HMM HEC
          clear hM
          have HQ2 := Aside0.mk q2
          have HLN : Aside0 ((lay (fun i : Nat => nulV (rd_T39 l i)) l.length).length + (encMarks kind M).length ≤ 140737488355328) := ⟨by
            have h1 := encMarks_le kind M (by have := HLNM.out; omega) (fun x hx => HSZ.out x (HMM.out x hx))
            rw [lay_length]
            omega⟩
          have HSM : Aside0 (∀ x ∈ M, x.f2.size ≤ 400000) := ⟨fun x hx => HSZ.out x (HMM.out x hx)⟩
          have HML : Aside0 (M.length ≤ 100000) := ⟨by have := HLNM.out; omega⟩
          rcases hk3 with rfl | rfl | rfl
          · have HGF : Aside0 (wc.heap[gb]? = some (.cells #[.func (.func 133) #[] #[], wayG 1] 113 (0, 0))) := ⟨HG.out⟩
            clear HG
            go_wp2_with (first
              | (go_at_call 90; refine M90.out.mono ?_; rintro e w2 ⟨rfl, hb2⟩; have HB2 := Aside0.mk hb2; have q3 := (hb2.cell (p := ⟨w.heap.size + 1, 0, none⟩) (World.block_lt_of_cell? _ _ HQ2.out)).trans HQ2.out; have HC2 := Aside0.mk (Kd.C_below HR.out (below_then HBC.out HBC.out.size hb2)); have MCL := Aside0.mk (clone_calls A c l (by omega) w2 HC2.out); clear hb2)
              | (go_at_call 94; refine MCL.out.mono ?_; rintro e w3 ⟨v3, rfl, ho3⟩; have MDL := Aside0.mk (delete_95 ho3 (by omega)); clear ho3)
              | (go_at_call 93; refine MDL.out.mono ?_; rintro e w4 ⟨A3, c3, rfl, hc3, hC3, hb4⟩; rw [← HME.out] at hc3 hC3 ⊢; have HC3 := Aside0.mk hC3; have HHC3 := Aside0.mk hc3; have HB4 := Aside0.mk (below_then HB2.out HB2.out.size hb4); clear hC3 hc3 hb4))
            have HBW4 := Aside0.mk (below_then HBC.out HBC.out.size HB4.out)
            have hg4 := (HB4.out.block gb (blk_lt HGF.out)).trans HGF.out
            have hq4 := (HB4.out.cell (p := ⟨w.heap.size + 1, 0, none⟩) (World.block_lt_of_cell? _ _ HQ2.out)).trans HQ2.out
            have HS5 : Aside0 (∀ W' : World, Below w4.heap.size w4 W' → (Below w4.heap.size w4 W' ∧ W'.cell? ⟨w.heap.size + 1, 0, none⟩ = some (.slice A l.length c) ∧ W'.cell? ⟨gb, 0, none⟩ = some (.func (.func 133) #[] #[]))) := ⟨fun W' hW => ⟨hW, (hW.cell (World.block_lt_of_cell? _ _ hq4)).trans hq4, (cell_of_row _ _ _ _ _ _ ((hW.block gb (blk_lt hg4)).trans hg4))⟩⟩
            have B1 := Aside0.mk (below_drew1 (Below.refl w4.heap.size w4))
            have M96 : Aside0 (∀ W' : World, Below w4.heap.size w4 W' → Calls Try.prog 96 #[.int .i64 l.length, .func (.func 97) #[] #[.pointer (some ⟨w.heap.size + 1, 0, none⟩)]] W' fun e w5 => ∃ v5, e = .returned v5 ∧ Own (Kd.int .u8) 5 w4.heap.size w4 w5 v5 (lay (fun i : Nat => nulV (rd_T39 l i)) l.length)) := ⟨fun W' hW => by
              refine (lay_97 (fun i : Nat => nulV (rd_T39 l i)) l.length hl (.pointer (some ⟨w.heap.size + 1, 0, none⟩)) W' ⟨fun W2 hW2 i hi => ?_⟩).mono ?_
              · have hb := below_then hW hW.size hW2
                exact clo97 W2 (w.heap.size + 1) A c l (HS5.out _ hb).2.1 (Kd.C_below HR.out (below_then HBW4.out HBW4.out.size hb)) i hi
              · rintro e w5 ⟨v5, rfl, hr5, hb5⟩
                exact ⟨v5, rfl, Own.made hW hW.size hr5 hb5⟩⟩
            have MPF : Aside0 (∀ W' : World, Below w4.heap.size w4 W' → Calls Try.prog 133 #[.slice A3 M.length c3] W' fun e w6 => ∃ A6 n6 c6, e = .returned (.slice A6 n6 c6) ∧ Kd.C (Kd.int .u8) w6 A6 n6 (encMarks 1 M) ∧ Below W'.heap.size W' w6) := ⟨fun W' hW => by
              refine (putTruths_calls A3 c3 M HML.out W' (Kd.C_below HC3.out hW)).mono ?_
              rintro e w6 ⟨v6, rfl, hr6, hb6⟩
              obtain ⟨A6, c6, e6, hc6, hC6⟩ := Kd.R_reads hr6
              subst e6
              exact ⟨A6, _, c6, rfl, hC6, hb6⟩⟩
            clear q1 q2 hq4 hg4
            go_wp2_with fail
            refine start_ (n := 11) (S := fun W' => Below w4.heap.size w4 W' ∧ W'.cell? ⟨w.heap.size + 1, 0, none⟩ = some (.slice A l.length c) ∧ W'.cell? ⟨gb, 0, none⟩ = some (.func (.func 133) #[] #[])) (ds := []) #[false, false, false, false, false, false, false, false, false, false, false] (by kernel_rfl) rfl rfl (HS5.out _ B1.out) (fun hHeld => ?_)
            refine with_tabW GU55.tab5 GU55.bits5 (fun HT_ HW_ => ?_)
            refine take_ (i := 0) (N := some 30) (v := ?_) (a' := ?_) #[true, false, false, false, false, false, false, false, false, false, false] rfl rfl (take_ofW HT_.out HW_.out (by kernel_rfl)) (fun _ _ _ h => h) (Or.inl ⟨by rfl, ?_⟩) hHeld ?_ ?_
            rotate_left
            · intro w' s0
              (try dsimp only at s0)
              (try go_split_ands)
              go_simp
              with_reducible rfl
            rotate_left
            · simp only [Act.put, List.setIfInBounds_toArray, List.set_cons_zero, List.set_cons_succ, i64_w, i32_w]
              rfl
            refine pure_ (i := 1) (N := some 31) (v := ?_) (a' := ?_) #[true, true, false, false, false, false, false, false, false, false, false] rfl rfl (any_of HT_.out (by kernel_rfl)) (fun _ _ _ h => h) (Or.inl ⟨by rfl, ?_⟩) ?_ ?_
            rotate_left
            · intro w'
              go_simp
              with_reducible rfl
            rotate_left
            · simp only [Act.put, List.setIfInBounds_toArray, List.set_cons_zero, List.set_cons_succ, i64_w, i32_w]
              rfl
            refine pure_ (i := 2) (N := some 32) (v := ?_) (a' := ?_) #[true, true, true, false, false, false, false, false, false, false, false] rfl rfl (any_of HT_.out (by kernel_rfl)) (fun _ _ _ h => h) (Or.inl ⟨by rfl, ?_⟩) ?_ ?_
            rotate_left
            · intro w'
              go_simp
              with_reducible rfl
            rotate_left
            · simp only [Act.put, List.setIfInBounds_toArray, List.set_cons_zero, List.set_cons_succ, i64_w, i32_w]
              rfl
            refine pure_ (i := 4) (N := some 34) (v := ?_) (a' := ?_) #[true, true, true, false, true, false, false, false, false, false, false] rfl rfl (any_of HT_.out (by kernel_rfl)) (fun _ _ _ h => h) (Or.inl ⟨by rfl, ?_⟩) ?_ ?_
            rotate_left
            · intro w'
              go_simp
              with_reducible rfl
            rotate_left
            · simp only [Act.put, List.setIfInBounds_toArray, List.set_cons_zero, List.set_cons_succ, i64_w, i32_w]
              rfl
            refine take_ (i := 5) (N := some 35) (v := ?_) (a' := ?_) #[true, true, true, false, true, true, false, false, false, false, false] rfl rfl (take_ofW HT_.out HW_.out (by kernel_rfl)) (fun _ _ _ h => h) (Or.inl ⟨by rfl, ?_⟩) hHeld ?_ ?_
            rotate_left
            · intro w' s0
              (try dsimp only at s0)
              (try go_split_ands)
              go_simp
              with_reducible rfl
            rotate_left
            · simp only [Act.put, List.setIfInBounds_toArray, List.set_cons_zero, List.set_cons_succ, i64_w, i32_w]
              rfl
            refine pure_ (i := 6) (N := some 36) (v := ?_) (a' := ?_) #[true, true, true, false, true, true, true, false, false, false, false] rfl rfl (any_of HT_.out (by kernel_rfl)) (fun _ _ _ h => h) (Or.inl ⟨by rfl, ?_⟩) ?_ ?_
            rotate_left
            · intro w'
              go_simp
              with_reducible rfl
            rotate_left
            · simp only [Act.put, List.setIfInBounds_toArray, List.set_cons_zero, List.set_cons_succ, i64_w, i32_w]
              rfl
            refine one_ (i := 3) (N := some 33) #[true, true, true, true, true, true, true, false, false, false, false] rfl rfl (one_of HT_.out (by kernel_rfl)) (by decide) (fun K hK => ?_)
            refine goes_ Try.func96 (by kernel_rfl) rfl #[.int .i64 l.length, .func (.func 97) #[] #[.pointer (some ⟨w.heap.size + 1, 0, none⟩)]] (by rfl) rfl rfl (by (try simp only [List.map_toArray, List.map_cons, List.map_nil]); first | done | rfl) ?_
            refine (M96.out _ B1.out).mono ?_
            rintro e w5 ⟨v5, rfl, ho5⟩
            have HO5 := Aside0.mk ho5
            clear ho5
            refine ⟨_, rfl, ?_⟩
            refine hK.out _ _ (HS5.out _ HO5.out.b) (fun hHeld => ?_)
            clear hK K
            refine norm_ (a' := ?_) ?_ ?_
            rotate_left
            · show Act.put _ (some 33) _ = _
              simp only [Act.put, List.setIfInBounds_toArray, List.set_cons_zero, List.set_cons_succ, i64_w, i32_w]
              rfl
            refine one_ (i := 7) (N := some 37) #[true, true, true, true, true, true, true, true, false, false, false] rfl rfl (one_of HT_.out (by kernel_rfl)) (by decide) (fun K hK => ?_)
            refine goesT_ Try.func133 (by kernel_rfl) rfl #[.slice A3 M.length c3] (by rfl) rfl rfl (by rfl) (by (try simp only [List.map_toArray, List.map_cons, List.map_nil]); first | done | rfl) ?_
            refine (MPF.out _ HO5.out.b).mono ?_
            rintro e w6 ⟨A6, n6, c6, rfl, hc6, hb6⟩
            have HC6 := Aside0.mk hc6
            have HO6 := Aside0.mk (HO5.out.step hb6)
            clear hb6
            refine ⟨_, rfl, ?_⟩
            refine hK.out _ _ (HS5.out _ HO6.out.b) (fun hHeld => ?_)
            clear hK K
            refine norm_ (a' := ?_) ?_ ?_
            rotate_left
            · show Act.put _ (some 37) _ = _
              simp only [Act.put, List.setIfInBounds_toArray, List.set_cons_zero, List.set_cons_succ, i64_w, i32_w]
              rfl
            refine one_ (i := 8) (N := some 38) #[true, true, true, true, true, true, true, true, true, false, false] rfl rfl (one_of HT_.out (by kernel_rfl)) (by decide) (fun K hK => ?_)
            refine bytes_step (by rfl) rfl (.tmp 33) (.tmp 37) rfl (by rfl) (by rfl) HO6.out HC6.out (by rw [Kd.C_len HC6.out |>.symm]; exact HLN.out) ?_
            intro v7 w7 ho7
            have HO7 := Aside0.mk ho7
            clear ho7
            refine hK.out _ _ (HS5.out _ HO7.out.b) (fun hHeld => ?_)
            clear hK K
            refine norm_ (a' := ?_) ?_ ?_
            rotate_left
            · show Act.put _ (some 38) _ = _
              simp only [Act.put, List.setIfInBounds_toArray, List.set_cons_zero, List.set_cons_succ, i64_w, i32_w]
              rfl
            refine pure_ (i := 9) (N := some 4) (v := ?_) (a' := ?_) #[true, true, true, true, true, true, true, true, true, true, false] rfl rfl (any_of HT_.out (by kernel_rfl)) (fun _ _ _ h => h) (Or.inl ⟨by rfl, ?_⟩) ?_ ?_
            rotate_left
            · intro w'
              go_simp
              with_reducible rfl
            rotate_left
            · simp only [Act.put, List.setIfInBounds_toArray, List.set_cons_zero, List.set_cons_succ, i64_w, i32_w]
              rfl
            refine pure_ (i := 10) (N := some 5) (v := ?_) (a' := ?_) #[true, true, true, true, true, true, true, true, true, true, true] rfl rfl (any_of HT_.out (by kernel_rfl)) (fun _ _ _ h => h) (Or.inl ⟨by rfl, ?_⟩) ?_ ?_
            rotate_left
            · intro w'
              go_simp
              with_reducible rfl
            rotate_left
            · simp only [Act.put, List.setIfInBounds_toArray, List.set_cons_zero, List.set_cons_succ, i64_w, i32_w]
              rfl
            refine done_ (done_of HT_.out (by kernel_rfl)) ?_
            go_wp2_with fail
            go_ret2
            have hfin := Own.made HBW4.out HBW4.out.size HO7.out.r HO7.out.b
            exact ⟨_, rfl, by show Kd.R _ _ _ _ _ _ (encCol 1 l); rw [HEC.out]; exact hfin.r, hfin.b⟩
          · have HGF : Aside0 (wc.heap[gb]? = some (.cells #[.func (.func 135) #[] #[], wayG 2] 113 (0, 0))) := ⟨HG.out⟩
            clear HG
            go_wp2_with (first
              | (go_at_call 90; refine M90.out.mono ?_; rintro e w2 ⟨rfl, hb2⟩; have HB2 := Aside0.mk hb2; have q3 := (hb2.cell (p := ⟨w.heap.size + 1, 0, none⟩) (World.block_lt_of_cell? _ _ HQ2.out)).trans HQ2.out; have HC2 := Aside0.mk (Kd.C_below HR.out (below_then HBC.out HBC.out.size hb2)); have MCL := Aside0.mk (clone_calls A c l (by omega) w2 HC2.out); clear hb2)
              | (go_at_call 94; refine MCL.out.mono ?_; rintro e w3 ⟨v3, rfl, ho3⟩; have MDL := Aside0.mk (delete_95 ho3 (by omega)); clear ho3)
              | (go_at_call 93; refine MDL.out.mono ?_; rintro e w4 ⟨A3, c3, rfl, hc3, hC3, hb4⟩; rw [← HME.out] at hc3 hC3 ⊢; have HC3 := Aside0.mk hC3; have HHC3 := Aside0.mk hc3; have HB4 := Aside0.mk (below_then HB2.out HB2.out.size hb4); clear hC3 hc3 hb4))
            have HBW4 := Aside0.mk (below_then HBC.out HBC.out.size HB4.out)
            have hg4 := (HB4.out.block gb (blk_lt HGF.out)).trans HGF.out
            have hq4 := (HB4.out.cell (p := ⟨w.heap.size + 1, 0, none⟩) (World.block_lt_of_cell? _ _ HQ2.out)).trans HQ2.out
            have HS5 : Aside0 (∀ W' : World, Below w4.heap.size w4 W' → (Below w4.heap.size w4 W' ∧ W'.cell? ⟨w.heap.size + 1, 0, none⟩ = some (.slice A l.length c) ∧ W'.cell? ⟨gb, 0, none⟩ = some (.func (.func 135) #[] #[]))) := ⟨fun W' hW => ⟨hW, (hW.cell (World.block_lt_of_cell? _ _ hq4)).trans hq4, (cell_of_row _ _ _ _ _ _ ((hW.block gb (blk_lt hg4)).trans hg4))⟩⟩
            have B1 := Aside0.mk (below_drew1 (Below.refl w4.heap.size w4))
            have M96 : Aside0 (∀ W' : World, Below w4.heap.size w4 W' → Calls Try.prog 96 #[.int .i64 l.length, .func (.func 97) #[] #[.pointer (some ⟨w.heap.size + 1, 0, none⟩)]] W' fun e w5 => ∃ v5, e = .returned v5 ∧ Own (Kd.int .u8) 5 w4.heap.size w4 w5 v5 (lay (fun i : Nat => nulV (rd_T39 l i)) l.length)) := ⟨fun W' hW => by
              refine (lay_97 (fun i : Nat => nulV (rd_T39 l i)) l.length hl (.pointer (some ⟨w.heap.size + 1, 0, none⟩)) W' ⟨fun W2 hW2 i hi => ?_⟩).mono ?_
              · have hb := below_then hW hW.size hW2
                exact clo97 W2 (w.heap.size + 1) A c l (HS5.out _ hb).2.1 (Kd.C_below HR.out (below_then HBW4.out HBW4.out.size hb)) i hi
              · rintro e w5 ⟨v5, rfl, hr5, hb5⟩
                exact ⟨v5, rfl, Own.made hW hW.size hr5 hb5⟩⟩
            have MPF : Aside0 (∀ W' : World, Below w4.heap.size w4 W' → Calls Try.prog 135 #[.slice A3 M.length c3] W' fun e w6 => ∃ A6 n6 c6, e = .returned (.slice A6 n6 c6) ∧ Kd.C (Kd.int .u8) w6 A6 n6 (encMarks 2 M) ∧ Below W'.heap.size W' w6) := ⟨fun W' hW => by
              refine (column_putNumbers.calls (M.length + 1) A3 c3 M _ W' (Kd.C_below HC3.out hW) HHC3.out (putNum_f M HML.out _ (Nat.lt_succ_self _))).mono ?_
              rintro e w6 ⟨v6, rfl, hr6, hb6⟩
              obtain ⟨A6, c6, e6, hc6, hC6⟩ := Kd.R_reads hr6
              subst e6
              exact ⟨A6, _, c6, rfl, hC6, hb6⟩⟩
            clear q1 q2 hq4 hg4
            go_wp2_with fail
            refine start_ (n := 11) (S := fun W' => Below w4.heap.size w4 W' ∧ W'.cell? ⟨w.heap.size + 1, 0, none⟩ = some (.slice A l.length c) ∧ W'.cell? ⟨gb, 0, none⟩ = some (.func (.func 135) #[] #[])) (ds := []) #[false, false, false, false, false, false, false, false, false, false, false] (by kernel_rfl) rfl rfl (HS5.out _ B1.out) (fun hHeld => ?_)
            refine with_tabW GU55.tab5 GU55.bits5 (fun HT_ HW_ => ?_)
            refine take_ (i := 0) (N := some 30) (v := ?_) (a' := ?_) #[true, false, false, false, false, false, false, false, false, false, false] rfl rfl (take_ofW HT_.out HW_.out (by kernel_rfl)) (fun _ _ _ h => h) (Or.inl ⟨by rfl, ?_⟩) hHeld ?_ ?_
            rotate_left
            · intro w' s0
              (try dsimp only at s0)
              (try go_split_ands)
              go_simp
              with_reducible rfl
            rotate_left
            · simp only [Act.put, List.setIfInBounds_toArray, List.set_cons_zero, List.set_cons_succ, i64_w, i32_w]
              rfl
            refine pure_ (i := 1) (N := some 31) (v := ?_) (a' := ?_) #[true, true, false, false, false, false, false, false, false, false, false] rfl rfl (any_of HT_.out (by kernel_rfl)) (fun _ _ _ h => h) (Or.inl ⟨by rfl, ?_⟩) ?_ ?_
            rotate_left
            · intro w'
              go_simp
              with_reducible rfl
            rotate_left
            · simp only [Act.put, List.setIfInBounds_toArray, List.set_cons_zero, List.set_cons_succ, i64_w, i32_w]
              rfl
            refine pure_ (i := 2) (N := some 32) (v := ?_) (a' := ?_) #[true, true, true, false, false, false, false, false, false, false, false] rfl rfl (any_of HT_.out (by kernel_rfl)) (fun _ _ _ h => h) (Or.inl ⟨by rfl, ?_⟩) ?_ ?_
            rotate_left
            · intro w'
              go_simp
              with_reducible rfl
            rotate_left
            · simp only [Act.put, List.setIfInBounds_toArray, List.set_cons_zero, List.set_cons_succ, i64_w, i32_w]
              rfl
            refine pure_ (i := 4) (N := some 34) (v := ?_) (a' := ?_) #[true, true, true, false, true, false, false, false, false, false, false] rfl rfl (any_of HT_.out (by kernel_rfl)) (fun _ _ _ h => h) (Or.inl ⟨by rfl, ?_⟩) ?_ ?_
            rotate_left
            · intro w'
              go_simp
              with_reducible rfl
            rotate_left
            · simp only [Act.put, List.setIfInBounds_toArray, List.set_cons_zero, List.set_cons_succ, i64_w, i32_w]
              rfl
            refine take_ (i := 5) (N := some 35) (v := ?_) (a' := ?_) #[true, true, true, false, true, true, false, false, false, false, false] rfl rfl (take_ofW HT_.out HW_.out (by kernel_rfl)) (fun _ _ _ h => h) (Or.inl ⟨by rfl, ?_⟩) hHeld ?_ ?_
            rotate_left
            · intro w' s0
              (try dsimp only at s0)
              (try go_split_ands)
              go_simp
              with_reducible rfl
            rotate_left
            · simp only [Act.put, List.setIfInBounds_toArray, List.set_cons_zero, List.set_cons_succ, i64_w, i32_w]
              rfl
            refine pure_ (i := 6) (N := some 36) (v := ?_) (a' := ?_) #[true, true, true, false, true, true, true, false, false, false, false] rfl rfl (any_of HT_.out (by kernel_rfl)) (fun _ _ _ h => h) (Or.inl ⟨by rfl, ?_⟩) ?_ ?_
            rotate_left
            · intro w'
              go_simp
              with_reducible rfl
            rotate_left
            · simp only [Act.put, List.setIfInBounds_toArray, List.set_cons_zero, List.set_cons_succ, i64_w, i32_w]
              rfl
            refine one_ (i := 3) (N := some 33) #[true, true, true, true, true, true, true, false, false, false, false] rfl rfl (one_of HT_.out (by kernel_rfl)) (by decide) (fun K hK => ?_)
            refine goes_ Try.func96 (by kernel_rfl) rfl #[.int .i64 l.length, .func (.func 97) #[] #[.pointer (some ⟨w.heap.size + 1, 0, none⟩)]] (by rfl) rfl rfl (by (try simp only [List.map_toArray, List.map_cons, List.map_nil]); first | done | rfl) ?_
            refine (M96.out _ B1.out).mono ?_
            rintro e w5 ⟨v5, rfl, ho5⟩
            have HO5 := Aside0.mk ho5
            clear ho5
            refine ⟨_, rfl, ?_⟩
            refine hK.out _ _ (HS5.out _ HO5.out.b) (fun hHeld => ?_)
            clear hK K
            refine norm_ (a' := ?_) ?_ ?_
            rotate_left
            · show Act.put _ (some 33) _ = _
              simp only [Act.put, List.setIfInBounds_toArray, List.set_cons_zero, List.set_cons_succ, i64_w, i32_w]
              rfl
            refine one_ (i := 7) (N := some 37) #[true, true, true, true, true, true, true, true, false, false, false] rfl rfl (one_of HT_.out (by kernel_rfl)) (by decide) (fun K hK => ?_)
            refine goesT_ Try.func135 (by kernel_rfl) rfl #[.slice A3 M.length c3] (by rfl) rfl rfl (by rfl) (by (try simp only [List.map_toArray, List.map_cons, List.map_nil]); first | done | rfl) ?_
            refine (MPF.out _ HO5.out.b).mono ?_
            rintro e w6 ⟨A6, n6, c6, rfl, hc6, hb6⟩
            have HC6 := Aside0.mk hc6
            have HO6 := Aside0.mk (HO5.out.step hb6)
            clear hb6
            refine ⟨_, rfl, ?_⟩
            refine hK.out _ _ (HS5.out _ HO6.out.b) (fun hHeld => ?_)
            clear hK K
            refine norm_ (a' := ?_) ?_ ?_
            rotate_left
            · show Act.put _ (some 37) _ = _
              simp only [Act.put, List.setIfInBounds_toArray, List.set_cons_zero, List.set_cons_succ, i64_w, i32_w]
              rfl
            refine one_ (i := 8) (N := some 38) #[true, true, true, true, true, true, true, true, true, false, false] rfl rfl (one_of HT_.out (by kernel_rfl)) (by decide) (fun K hK => ?_)
            refine bytes_step (by rfl) rfl (.tmp 33) (.tmp 37) rfl (by rfl) (by rfl) HO6.out HC6.out (by rw [Kd.C_len HC6.out |>.symm]; exact HLN.out) ?_
            intro v7 w7 ho7
            have HO7 := Aside0.mk ho7
            clear ho7
            refine hK.out _ _ (HS5.out _ HO7.out.b) (fun hHeld => ?_)
            clear hK K
            refine norm_ (a' := ?_) ?_ ?_
            rotate_left
            · show Act.put _ (some 38) _ = _
              simp only [Act.put, List.setIfInBounds_toArray, List.set_cons_zero, List.set_cons_succ, i64_w, i32_w]
              rfl
            refine pure_ (i := 9) (N := some 4) (v := ?_) (a' := ?_) #[true, true, true, true, true, true, true, true, true, true, false] rfl rfl (any_of HT_.out (by kernel_rfl)) (fun _ _ _ h => h) (Or.inl ⟨by rfl, ?_⟩) ?_ ?_
            rotate_left
            · intro w'
              go_simp
              with_reducible rfl
            rotate_left
            · simp only [Act.put, List.setIfInBounds_toArray, List.set_cons_zero, List.set_cons_succ, i64_w, i32_w]
              rfl
            refine pure_ (i := 10) (N := some 5) (v := ?_) (a' := ?_) #[true, true, true, true, true, true, true, true, true, true, true] rfl rfl (any_of HT_.out (by kernel_rfl)) (fun _ _ _ h => h) (Or.inl ⟨by rfl, ?_⟩) ?_ ?_
            rotate_left
            · intro w'
              go_simp
              with_reducible rfl
            rotate_left
            · simp only [Act.put, List.setIfInBounds_toArray, List.set_cons_zero, List.set_cons_succ, i64_w, i32_w]
              rfl
            refine done_ (done_of HT_.out (by kernel_rfl)) ?_
            go_wp2_with fail
            go_ret2
            have hfin := Own.made HBW4.out HBW4.out.size HO7.out.r HO7.out.b
            exact ⟨_, rfl, by show Kd.R _ _ _ _ _ _ (encCol 2 l); rw [HEC.out]; exact hfin.r, hfin.b⟩
          · have HGF : Aside0 (wc.heap[gb]? = some (.cells #[.func (.func 137) #[] #[], wayG 3] 113 (0, 0))) := ⟨HG.out⟩
            clear HG
            go_wp2_with (first
              | (go_at_call 90; refine M90.out.mono ?_; rintro e w2 ⟨rfl, hb2⟩; have HB2 := Aside0.mk hb2; have q3 := (hb2.cell (p := ⟨w.heap.size + 1, 0, none⟩) (World.block_lt_of_cell? _ _ HQ2.out)).trans HQ2.out; have HC2 := Aside0.mk (Kd.C_below HR.out (below_then HBC.out HBC.out.size hb2)); have MCL := Aside0.mk (clone_calls A c l (by omega) w2 HC2.out); clear hb2)
              | (go_at_call 94; refine MCL.out.mono ?_; rintro e w3 ⟨v3, rfl, ho3⟩; have MDL := Aside0.mk (delete_95 ho3 (by omega)); clear ho3)
              | (go_at_call 93; refine MDL.out.mono ?_; rintro e w4 ⟨A3, c3, rfl, hc3, hC3, hb4⟩; rw [← HME.out] at hc3 hC3 ⊢; have HC3 := Aside0.mk hC3; have HHC3 := Aside0.mk hc3; have HB4 := Aside0.mk (below_then HB2.out HB2.out.size hb4); clear hC3 hc3 hb4))
            have HBW4 := Aside0.mk (below_then HBC.out HBC.out.size HB4.out)
            have hg4 := (HB4.out.block gb (blk_lt HGF.out)).trans HGF.out
            have hq4 := (HB4.out.cell (p := ⟨w.heap.size + 1, 0, none⟩) (World.block_lt_of_cell? _ _ HQ2.out)).trans HQ2.out
            have HS5 : Aside0 (∀ W' : World, Below w4.heap.size w4 W' → (Below w4.heap.size w4 W' ∧ W'.cell? ⟨w.heap.size + 1, 0, none⟩ = some (.slice A l.length c) ∧ W'.cell? ⟨gb, 0, none⟩ = some (.func (.func 137) #[] #[]))) := ⟨fun W' hW => ⟨hW, (hW.cell (World.block_lt_of_cell? _ _ hq4)).trans hq4, (cell_of_row _ _ _ _ _ _ ((hW.block gb (blk_lt hg4)).trans hg4))⟩⟩
            have B1 := Aside0.mk (below_drew1 (Below.refl w4.heap.size w4))
            have M96 : Aside0 (∀ W' : World, Below w4.heap.size w4 W' → Calls Try.prog 96 #[.int .i64 l.length, .func (.func 97) #[] #[.pointer (some ⟨w.heap.size + 1, 0, none⟩)]] W' fun e w5 => ∃ v5, e = .returned v5 ∧ Own (Kd.int .u8) 5 w4.heap.size w4 w5 v5 (lay (fun i : Nat => nulV (rd_T39 l i)) l.length)) := ⟨fun W' hW => by
              refine (lay_97 (fun i : Nat => nulV (rd_T39 l i)) l.length hl (.pointer (some ⟨w.heap.size + 1, 0, none⟩)) W' ⟨fun W2 hW2 i hi => ?_⟩).mono ?_
              · have hb := below_then hW hW.size hW2
                exact clo97 W2 (w.heap.size + 1) A c l (HS5.out _ hb).2.1 (Kd.C_below HR.out (below_then HBW4.out HBW4.out.size hb)) i hi
              · rintro e w5 ⟨v5, rfl, hr5, hb5⟩
                exact ⟨v5, rfl, Own.made hW hW.size hr5 hb5⟩⟩
            have MPF : Aside0 (∀ W' : World, Below w4.heap.size w4 W' → Calls Try.prog 137 #[.slice A3 M.length c3] W' fun e w6 => ∃ A6 n6 c6, e = .returned (.slice A6 n6 c6) ∧ Kd.C (Kd.int .u8) w6 A6 n6 (encMarks 3 M) ∧ Below W'.heap.size W' w6) := ⟨fun W' hW => by
              refine (putTexts_any A3 c3 M HML.out HSM.out W' (Kd.C_below HC3.out hW)).mono ?_
              rintro e w6 ⟨v6, rfl, hr6, hb6⟩
              obtain ⟨A6, c6, e6, hc6, hC6⟩ := Kd.R_reads hr6
              subst e6
              exact ⟨A6, _, c6, rfl, hC6, hb6⟩⟩
            clear q1 q2 hq4 hg4
            go_wp2_with fail
            refine start_ (n := 11) (S := fun W' => Below w4.heap.size w4 W' ∧ W'.cell? ⟨w.heap.size + 1, 0, none⟩ = some (.slice A l.length c) ∧ W'.cell? ⟨gb, 0, none⟩ = some (.func (.func 137) #[] #[])) (ds := []) #[false, false, false, false, false, false, false, false, false, false, false] (by kernel_rfl) rfl rfl (HS5.out _ B1.out) (fun hHeld => ?_)
            refine with_tabW GU55.tab5 GU55.bits5 (fun HT_ HW_ => ?_)
            refine take_ (i := 0) (N := some 30) (v := ?_) (a' := ?_) #[true, false, false, false, false, false, false, false, false, false, false] rfl rfl (take_ofW HT_.out HW_.out (by kernel_rfl)) (fun _ _ _ h => h) (Or.inl ⟨by rfl, ?_⟩) hHeld ?_ ?_
            rotate_left
            · intro w' s0
              (try dsimp only at s0)
              (try go_split_ands)
              go_simp
              with_reducible rfl
            rotate_left
            · simp only [Act.put, List.setIfInBounds_toArray, List.set_cons_zero, List.set_cons_succ, i64_w, i32_w]
              rfl
            refine pure_ (i := 1) (N := some 31) (v := ?_) (a' := ?_) #[true, true, false, false, false, false, false, false, false, false, false] rfl rfl (any_of HT_.out (by kernel_rfl)) (fun _ _ _ h => h) (Or.inl ⟨by rfl, ?_⟩) ?_ ?_
            rotate_left
            · intro w'
              go_simp
              with_reducible rfl
            rotate_left
            · simp only [Act.put, List.setIfInBounds_toArray, List.set_cons_zero, List.set_cons_succ, i64_w, i32_w]
              rfl
            refine pure_ (i := 2) (N := some 32) (v := ?_) (a' := ?_) #[true, true, true, false, false, false, false, false, false, false, false] rfl rfl (any_of HT_.out (by kernel_rfl)) (fun _ _ _ h => h) (Or.inl ⟨by rfl, ?_⟩) ?_ ?_
            rotate_left
            · intro w'
              go_simp
              with_reducible rfl
            rotate_left
            · simp only [Act.put, List.setIfInBounds_toArray, List.set_cons_zero, List.set_cons_succ, i64_w, i32_w]
              rfl
            refine pure_ (i := 4) (N := some 34) (v := ?_) (a' := ?_) #[true, true, true, false, true, false, false, false, false, false, false] rfl rfl (any_of HT_.out (by kernel_rfl)) (fun _ _ _ h => h) (Or.inl ⟨by rfl, ?_⟩) ?_ ?_
            rotate_left
            · intro w'
              go_simp
              with_reducible rfl
            rotate_left
            · simp only [Act.put, List.setIfInBounds_toArray, List.set_cons_zero, List.set_cons_succ, i64_w, i32_w]
              rfl
            refine take_ (i := 5) (N := some 35) (v := ?_) (a' := ?_) #[true, true, true, false, true, true, false, false, false, false, false] rfl rfl (take_ofW HT_.out HW_.out (by kernel_rfl)) (fun _ _ _ h => h) (Or.inl ⟨by rfl, ?_⟩) hHeld ?_ ?_
            rotate_left
            · intro w' s0
              (try dsimp only at s0)
              (try go_split_ands)
              go_simp
              with_reducible rfl
            rotate_left
            · simp only [Act.put, List.setIfInBounds_toArray, List.set_cons_zero, List.set_cons_succ, i64_w, i32_w]
              rfl
            refine pure_ (i := 6) (N := some 36) (v := ?_) (a' := ?_) #[true, true, true, false, true, true, true, false, false, false, false] rfl rfl (any_of HT_.out (by kernel_rfl)) (fun _ _ _ h => h) (Or.inl ⟨by rfl, ?_⟩) ?_ ?_
            rotate_left
            · intro w'
              go_simp
              with_reducible rfl
            rotate_left
            · simp only [Act.put, List.setIfInBounds_toArray, List.set_cons_zero, List.set_cons_succ, i64_w, i32_w]
              rfl
            refine one_ (i := 3) (N := some 33) #[true, true, true, true, true, true, true, false, false, false, false] rfl rfl (one_of HT_.out (by kernel_rfl)) (by decide) (fun K hK => ?_)
            refine goes_ Try.func96 (by kernel_rfl) rfl #[.int .i64 l.length, .func (.func 97) #[] #[.pointer (some ⟨w.heap.size + 1, 0, none⟩)]] (by rfl) rfl rfl (by (try simp only [List.map_toArray, List.map_cons, List.map_nil]); first | done | rfl) ?_
            refine (M96.out _ B1.out).mono ?_
            rintro e w5 ⟨v5, rfl, ho5⟩
            have HO5 := Aside0.mk ho5
            clear ho5
            refine ⟨_, rfl, ?_⟩
            refine hK.out _ _ (HS5.out _ HO5.out.b) (fun hHeld => ?_)
            clear hK K
            refine norm_ (a' := ?_) ?_ ?_
            rotate_left
            · show Act.put _ (some 33) _ = _
              simp only [Act.put, List.setIfInBounds_toArray, List.set_cons_zero, List.set_cons_succ, i64_w, i32_w]
              rfl
            refine one_ (i := 7) (N := some 37) #[true, true, true, true, true, true, true, true, false, false, false] rfl rfl (one_of HT_.out (by kernel_rfl)) (by decide) (fun K hK => ?_)
            refine goesT_ Try.func137 (by kernel_rfl) rfl #[.slice A3 M.length c3] (by rfl) rfl rfl (by rfl) (by (try simp only [List.map_toArray, List.map_cons, List.map_nil]); first | done | rfl) ?_
            refine (MPF.out _ HO5.out.b).mono ?_
            rintro e w6 ⟨A6, n6, c6, rfl, hc6, hb6⟩
            have HC6 := Aside0.mk hc6
            have HO6 := Aside0.mk (HO5.out.step hb6)
            clear hb6
            refine ⟨_, rfl, ?_⟩
            refine hK.out _ _ (HS5.out _ HO6.out.b) (fun hHeld => ?_)
            clear hK K
            refine norm_ (a' := ?_) ?_ ?_
            rotate_left
            · show Act.put _ (some 37) _ = _
              simp only [Act.put, List.setIfInBounds_toArray, List.set_cons_zero, List.set_cons_succ, i64_w, i32_w]
              rfl
            refine one_ (i := 8) (N := some 38) #[true, true, true, true, true, true, true, true, true, false, false] rfl rfl (one_of HT_.out (by kernel_rfl)) (by decide) (fun K hK => ?_)
            refine bytes_step (by rfl) rfl (.tmp 33) (.tmp 37) rfl (by rfl) (by rfl) HO6.out HC6.out (by rw [Kd.C_len HC6.out |>.symm]; exact HLN.out) ?_
            intro v7 w7 ho7
            have HO7 := Aside0.mk ho7
            clear ho7
            refine hK.out _ _ (HS5.out _ HO7.out.b) (fun hHeld => ?_)
            clear hK K
            refine norm_ (a' := ?_) ?_ ?_
            rotate_left
            · show Act.put _ (some 38) _ = _
              simp only [Act.put, List.setIfInBounds_toArray, List.set_cons_zero, List.set_cons_succ, i64_w, i32_w]
              rfl
            refine pure_ (i := 9) (N := some 4) (v := ?_) (a' := ?_) #[true, true, true, true, true, true, true, true, true, true, false] rfl rfl (any_of HT_.out (by kernel_rfl)) (fun _ _ _ h => h) (Or.inl ⟨by rfl, ?_⟩) ?_ ?_
            rotate_left
            · intro w'
              go_simp
              with_reducible rfl
            rotate_left
            · simp only [Act.put, List.setIfInBounds_toArray, List.set_cons_zero, List.set_cons_succ, i64_w, i32_w]
              rfl
            refine pure_ (i := 10) (N := some 5) (v := ?_) (a' := ?_) #[true, true, true, true, true, true, true, true, true, true, true] rfl rfl (any_of HT_.out (by kernel_rfl)) (fun _ _ _ h => h) (Or.inl ⟨by rfl, ?_⟩) ?_ ?_
            rotate_left
            · intro w'
              go_simp
              with_reducible rfl
            rotate_left
            · simp only [Act.put, List.setIfInBounds_toArray, List.set_cons_zero, List.set_cons_succ, i64_w, i32_w]
              rfl
            refine done_ (done_of HT_.out (by kernel_rfl)) ?_
            go_wp2_with fail
            go_ret2
            have hfin := Own.made HBW4.out HBW4.out.size HO7.out.r HO7.out.b
            exact ⟨_, rfl, by show Kd.R _ _ _ _ _ _ (encCol 3 l); rw [HEC.out]; exact hfin.r, hfin.b⟩
      · have hl1 : 65536 < (l.length : Int) := by omega
        have hr1 := Aside0.mk (show r = ([], 1) by rw [HPR.out]; unfold putCol; rw [if_neg (fun h => hlen h.2.1)])
        clear hlen
        go_wp2
        go_ret2
        exact HFIN.out _ HBC.out hr1.out
def column_Put.f (kind : Int) (l : List S39) : Option (List Int × Int) := if l.length ≤ 100000 ∧ l.all okNum = true ∧ (l.all fun x => decide (x.f2.size ≤ 400000)) = true then some (putCol kind l) else none
theorem column_Put.calls (a0 : Int) (A1 : Option Addr) (c1 : Nat) (l1 : List S39) (r1 : List Int) (r2 : Int) (w : World) (hr1 : Kd.C k39 w A1 l1.length l1) (hc1 : l1.length ≤ c1) (h : column_Put.f a0 l1 = some (r1, r2)) :
    Calls Try.prog 55 #[.int .u8 a0, .slice A1 l1.length c1] w fun e w' => ∃ v0_ : Value, e = .returned (.tuple #[v0_, .int .i64 r2]) ∧ Kd.R (Kd.int .u8) 5 w' w.heap.size (fun _ => True) v0_ r1 ∧ Below w.heap.size w w' := by
  unfold column_Put.f at h
  split at h
  · rename_i h1
    injection h with h
    obtain ⟨h1, h2, h3⟩ := h1
    rw [List.all_eq_true] at h2 h3
    have := column_Put_any a0 A1 c1 l1 h1 h2 (fun x hx => by simpa using h3 x hx) w hr1
    rw [h] at this
    exact this
  · cases h
end Go.Proofs.Ytlmcefhpnfoahaa.P
end

section
namespace Go.Proofs.Ytlmcefhpnfoahaa.P
open Go.RowKit Go.Proofs.YtlmcefhpnfoahaaW.PrintWords Go.Proofs.YtlmcefhpnfoahaaW.PrintLast Go.Proofs.YtlmcefhpnfoahaaW.PrintMore
attribute [local go_sem] max2_int min2_int max_two min_two max_three min_three max_four min_four   -- for this text's walks alone
set_option linter.unusedVariables false
set_option linter.unusedSimpArgs false

mutual
def ints_Get.j0 : Nat → List Int → Int → Bool → Option (List Int × Int)
  | 0, _, _, _ => none
  | k + 1, x0, x1, x20 => if x20 = true then (some (([] : List Int), 1)) else (ints_Get.l0 k x0 x1 ([] : List Int) 0 0 0)
def ints_Get.l0 : Nat → List Int → Int → List Int → Int → Int → Int → Option (List Int × Int)
  | 0, _, _, _, _, _, _ => none
  | k + 1, x0, x1, x6, x7, x8, x9 => if (x6.length : Int) < x1 then (if (x0.length : Int) = 0 then (some (([] : List Int), 20)) else ((varint_Get.f k x0).bind fun bt401 => (if bt401.2.2 = 0 then (if bt401.1 = 0 then (some (([] : List Int), 21)) else (if bt401.1 > (IntKind.u64.wrap (wrap64 (x1 - (x6.length : Int)))) then (some (([] : List Int), 21)) else (if 0 ≤ bt401.2.1 then (if bt401.2.1 ≤ (x0.length : Int) then ((varint_Get.f k (x0.drop (bt401.2.1 : Int).toNat)).bind fun bt409 => (if bt409.2.2 = 0 then (if (x6.length : Int) > 0 then ((varint_Zag.f bt409.1).bind fun t412 => (if t412 = x9 then (some (([] : List Int), 21)) else (ints_Get.j2 k x0 x1 x6 x7 x8 bt401.1 bt401.2.1 bt409.1 bt409.2.1))) else (ints_Get.j2 k x0 x1 x6 x7 x8 bt401.1 bt401.2.1 bt409.1 bt409.2.1)) else (some (([] : List Int), bt409.2.2)))) else (none)) else (none)))) else (some (([] : List Int), bt401.2.2))))) else (if (x0.length : Int) > 0 then (some (([] : List Int), 21)) else (some (x6, 0)))
def ints_Get.j2 : Nat → List Int → Int → List Int → Int → Int → Int → Int → Int → Int → Option (List Int × Int)
  | 0, _, _, _, _, _, _, _, _, _ => none
  | k + 1, x0, x1, x6, x7, x8, x10, x11, x13, x14 => if 0 ≤ (wrap64 (x11 + x14)) then (if (wrap64 (x11 + x14)) ≤ (x0.length : Int) then ((varint_Zag.f x13).bind fun t418 => (ints_Get.l1 k (x0.drop ((wrap64 (x11 + x14)) : Int).toNat) x1 x6 x7 x8 t418 x10 0)) else (none)) else (none)
def ints_Get.l1 : Nat → List Int → Int → List Int → Int → Int → Int → Int → Int → Option (List Int × Int)
  | 0, _, _, _, _, _, _, _, _ => none
  | k + 1, x0, x1, x6, x7, x8, x9, x79, x80 => if x80 < x79 then (if x6.length < 17592186044416 then (ints_Get.l1 k x0 x1 (x6 ++ [wrap64 (x7 + (wrap64 (x8 + x9)))]) (wrap64 (x7 + (wrap64 (x8 + x9)))) (wrap64 (x8 + x9)) x9 x79 (IntKind.u64.wrap (x80 + 1))) else (none)) else (ints_Get.l0 k x0 x1 x6 x7 x8 x9)
end
def ints_Get.f (k : Nat) (l0 : List Int) (a1 : Int) : Option (List Int × Int) := if a1 < 0 then (ints_Get.j0 k l0 a1 true) else (ints_Get.j0 k l0 a1 (decide (a1 > 65536)))
set_option maxHeartbeats 8000000 in
set_option maxRecDepth 100000 in
theorem ints_Get.calls (k : Nat) (P0_ : Nat → Prop) (A0 : Option Addr) (c0 : Nat) (l0 : List Int) (a1 : Int) (r1 : List Int) (r2 : Int) (w : World) (hs0 : Kd.V (Kd.int .u8) 5 w w.heap.size (fun k_ => P0_ k_) (.slice A0 l0.length c0) l0) (h : ints_Get.f k l0 a1 = some (r1, r2)) :
    Calls Try.prog 152 #[.slice A0 l0.length c0, .int .i64 a1] w fun e w' => ∃ v0_ : Value, e = .returned (.tuple #[v0_, .int .i64 r2]) ∧ Kd.R (Kd.int .i64) 2 w' w.heap.size (fun k_ => (w.heap.size ≤ k_)) v0_ r1 ∧ Below w.heap.size w w' := by
  have HO0 := Aside0.mk (show Kd.V (Kd.int .u8) 5 w w.heap.size (fun k_ => (P0_ k_ ∨ w.heap.size ≤ k_)) (.slice A0 l0.length c0) l0 from Kd.V_mono hs0 (fun k_ hk => .inl hk))
  have HB := Aside0.mk (Below.refl w.heap.size w)
  have H : (if a1 < 0 then (ints_Get.j0 k l0 a1 true) else (ints_Get.j0 k l0 a1 (decide (a1 > 65536)))) = some (r1, r2) := h
  clear h
  have HC3 := Aside0.mk H
  clear H
  go_enter Try.func152, Try.ntmps152
  go_upto_region 1 with (fail)
  go_cut [20] (fun v20 wc => ∃ (kq : Nat) (x20_2 : Bool), v20 = .bool x20_2 ∧ Aside0 (ints_Get.j0 kq l0 a1 x20_2 = some (r1, r2)) ∧ Aside0 (kq ≤ k) ∧ Aside0 (Kd.V (Kd.int .u8) 5 wc w.heap.size (fun k_ => (P0_ k_ ∨ w.heap.size ≤ k_)) (.slice A0 l0.length c0) l0) ∧ Aside0 (Below w.heap.size w wc))
  case first =>
    have H := HC3.out
    clear HC3
    by_cases c4 : a1 < 0
    · rw [if_pos c4] at H
      have c4b0 : decide (a1 < 0) = true := decide_eq_true c4
      clear c4
      (first | rw [c4b0] | (simp only [i64_w, i32_w]; rw [c4b0]) | skip)
      have H' := Aside0.mk H
      clear H
      go_wp2
      go_meet
      case rel => exact ⟨_, (true), (by first | rfl | (simp; done) | (simp [*]; done)), H', ⟨by first | omega | exact Nat.le_refl _⟩, ⟨by (with_reducible repeat (first | apply Kd.V_alloc | apply Kd.V_drewN | apply Kd.V_drew)); exact HO0.out⟩, ⟨by repeat (first | (with_reducible first | exact HB.out | apply below_alloc | apply pw_below_drewN | apply below_drew1) | exact HB.out)⟩⟩
    · rw [if_neg c4] at H
      have c4b0 : decide (a1 < 0) = false := decide_eq_false c4
      clear c4
      (first | rw [c4b0] | (simp only [i64_w, i32_w]; rw [c4b0]) | skip)
      have H' := Aside0.mk H
      clear H
      go_wp2
      go_meet
      case rel => exact ⟨_, (decide (a1 > 65536)), (by first | rfl | (simp; done) | (simp [*]; done)), H', ⟨by first | omega | exact Nat.le_refl _⟩, ⟨by (with_reducible repeat (first | apply Kd.V_alloc | apply Kd.V_drewN | apply Kd.V_drew)); exact HO0.out⟩, ⟨by repeat (first | (with_reducible first | exact HB.out | apply below_alloc | apply pw_below_drewN | apply below_drew1) | exact HB.out)⟩⟩
  case rest =>
    clear HC3
    try clear c1
    try clear p2
    try clear c4
    try clear c4b0
    obtain ⟨kq, x20_2, rfl, HA, HJ2, HO_0, HB⟩ := hcut
    cases kq with
    | zero => exact absurd HA.out (by simp [ints_Get.j0])
    | succ kj2 =>
      have H := HA.out
      clear HA
      simp only [ints_Get.j0] at H
      by_cases c5 : x20_2 = true
      · subst c5
        have H1 : (some (([] : List Int), 1)) = some (r1, r2) := by rw [if_pos rfl] at H; exact H
        clear H
        have H := H1
        clear H1
        simp only [Option.some.injEq, Prod.mk.injEq] at H
        obtain ⟨rfl, rfl⟩ := H
        go_wp2
        go_ret2
        exact ⟨_, by first | rfl | (simp [errW_none, errW_some] <;> rfl) | (simp [*, errW_none, errW_some] <;> rfl), by first | exact Kd.R_nil _ _ _ _ _ | exact Kd.N_nil _ _ _ _ _ | exact Kd.V_nil _ _ _ _ _ | exact Kd.Q_nil _ _ _ _ _ | exact Kd.S_nil _ _ _ _ _, by repeat (first | (with_reducible first | exact HB.out | apply below_alloc | apply pw_below_drewN | apply below_drew1) | exact HB.out)⟩
      · replace c5 := Bool.eq_false_iff.mpr c5
        subst c5
        have H1 : (ints_Get.l0 kj2 l0 a1 ([] : List Int) 0 0 0) = some (r1, r2) := by rw [if_neg (show ¬ (false = true) by decide)] at H; exact H
        clear H
        have H := H1
        clear H1
        have H' := Aside0.mk H
        clear H
        go_wp2
        go_loopg [0, 6, 7, 8, 9] kj2 (fun kq v0 v6 v7 v8 v9 w' => ∃ (x0_2 : List Int) (x6_2 : List Int) (x7_2 : Int) (x8_2 : Int) (x9_2 : Int), v7 = .int .i64 x7_2 ∧ v8 = .int .i64 x8_2 ∧ v9 = .int .i64 x9_2 ∧ Aside0 (ints_Get.l0 kq x0_2 a1 x6_2 x7_2 x8_2 x9_2 = some (r1, r2)) ∧ Aside0 (kq ≤ kj2) ∧ Aside0 (Kd.V (Kd.int .u8) 5 w' w.heap.size (fun k_ => (P0_ k_ ∨ w.heap.size ≤ k_) ∧ some k_ ≠ (v6 : Value).ownBlock) v0 x0_2) ∧ Aside0 (Kd.R (Kd.int .i64) 2 w' w.heap.size (fun k_ => (w.heap.size ≤ k_)) v6 x6_2) ∧ Aside0 (Below w.heap.size w w'))
        case atStart => exact ⟨(l0), (([] : List Int)), (0), (0), (0), (by first | rfl | (simp; done) | (simp [*]; done)), (by first | rfl | (simp; done) | (simp [*]; done)), (by first | rfl | (simp; done) | (simp [*]; done)), H', ⟨Nat.le_refl _⟩, ⟨by (with_reducible repeat (first | apply Kd.V_alloc | apply Kd.V_drewN | apply Kd.V_drew)); exact Kd.V_mono HO_0.out (fun _ hk => ⟨hk, (by simp [Value.ownBlock])⟩)⟩, ⟨by first | exact Kd.R_nil _ _ _ _ _ | exact Kd.N_nil _ _ _ _ _ | exact Kd.V_nil _ _ _ _ _ | exact Kd.Q_nil _ _ _ _ _ | exact Kd.S_nil _ _ _ _ _⟩, ⟨by repeat (first | (with_reducible first | exact HB.out | apply below_alloc | apply pw_below_drewN | apply below_drew1) | exact HB.out)⟩⟩
        case round =>
          clear H'
          try clear c1
          try clear p2
          try clear c4
          try clear c4b0
          try clear c5
          try clear p2
          obtain ⟨x0_2, x6_2, x7_2, x8_2, x9_2, rfl, rfl, rfl, HA, HK2, HO_0, HO_6, HB⟩ := hrel
          cases gk with
          | zero => exact absurd HA.out (by simp [ints_Get.l0])
          | succ k2 =>
            have H := HA.out
            clear HA
            simp only [ints_Get.l0] at H
            by_cases c6 : (x6_2.length : Int) < a1
            · rw [if_pos c6] at H
              have c6b0 : decide ((x6_2.length : Int) < a1) = true := decide_eq_true c6
              clear c6
              by_cases c7 : (x0_2.length : Int) = 0
              · rw [if_pos c7] at H
                have c7b0 : ((x0_2.length : Int) == 0) = true := beq_iff_eq.mpr c7
                have c7b1 : ((x0_2.length : Int) != 0) = false := bne_eq_false_iff_eq.mpr c7
                clear c7
                simp only [Option.some.injEq, Prod.mk.injEq] at H
                obtain ⟨rfl, rfl⟩ := H
                obtain ⟨Ao8, co8, eo8⟩ := Kd.R_slice HO_6.out
                subst eo8
                obtain ⟨Ao9, co9, eo9⟩ := Kd.V_slice HO_0.out
                subst eo9
                go_wp2
                go_ret2
                exact ⟨_, by first | rfl | (simp [errW_none, errW_some] <;> rfl) | (simp [*, errW_none, errW_some] <;> rfl), by first | exact Kd.R_nil _ _ _ _ _ | exact Kd.N_nil _ _ _ _ _ | exact Kd.V_nil _ _ _ _ _ | exact Kd.Q_nil _ _ _ _ _ | exact Kd.S_nil _ _ _ _ _, by repeat (first | (with_reducible first | exact HB.out | apply below_alloc | apply pw_below_drewN | apply below_drew1) | exact HB.out)⟩
              · rw [if_neg c7] at H
                have c7b0 : ((x0_2.length : Int) == 0) = false := beq_eq_false_iff_ne.mpr c7
                have c7b1 : ((x0_2.length : Int) != 0) = true := bne_iff_ne.mpr c7
                have c7b2 : ¬ (x0_2 = []) := fun h_ => c7 (by rw [h_]; rfl)
                replace H := Option.bind_eq_some_iff.mp H
                obtain ⟨⟨t401, t402, t403⟩, A100, H⟩ := H
                replace H : (if t403 = 0 then (if t401 = 0 then (some (([] : List Int), 21)) else (if t401 > (IntKind.u64.wrap (wrap64 (a1 - (x6_2.length : Int)))) then (some (([] : List Int), 21)) else (if 0 ≤ t402 then (if t402 ≤ (x0_2.length : Int) then ((varint_Get.f k2 (x0_2.drop (t402 : Int).toNat)).bind fun bt409 => (if bt409.2.2 = 0 then (if (x6_2.length : Int) > 0 then ((varint_Zag.f bt409.1).bind fun t412 => (if t412 = x9_2 then (some (([] : List Int), 21)) else (ints_Get.j2 k2 x0_2 a1 x6_2 x7_2 x8_2 t401 t402 bt409.1 bt409.2.1))) else (ints_Get.j2 k2 x0_2 a1 x6_2 x7_2 x8_2 t401 t402 bt409.1 bt409.2.1)) else (some (([] : List Int), bt409.2.2)))) else (none)) else (none)))) else (some (([] : List Int), t403))) = some (r1, r2) := H
                have A10 := Aside0.mk A100
                clear A100
                by_cases c11 : t403 = 0
                · rw [if_pos c11] at H
                  have c11b0 : (t403 == 0) = true := beq_iff_eq.mpr c11
                  have c11b1 : (t403 != 0) = false := bne_eq_false_iff_eq.mpr c11
                  clear c11
                  by_cases c12 : t401 = 0
                  · rw [if_pos c12] at H
                    have c12b0 : (t401 == 0) = true := beq_iff_eq.mpr c12
                    have c12b1 : (t401 != 0) = false := bne_eq_false_iff_eq.mpr c12
                    clear c12
                    simp only [Option.some.injEq, Prod.mk.injEq] at H
                    obtain ⟨rfl, rfl⟩ := H
                    obtain ⟨Ao13, co13, eo13⟩ := Kd.R_slice HO_6.out
                    subst eo13
                    obtain ⟨Ao14, co14, eo14⟩ := Kd.V_slice HO_0.out
                    subst eo14
                    go_wp2_with (first | ((with_reducible refine gate_callee (f := 126) rfl ?_); refine goesL_ (some 30) rfl rfl Try.func126 (by kernel_rfl) rfl #[.slice Ao14 x0_2.length co14] rfl (by (try simp only [List.map_toArray, List.map_cons, List.map_nil]); first | done | rfl | (simp only [List.length_drop, List.length_take]; rfl)) ?_; (with_reducible refine (varint_Get.calls k2 _ _ x0_2 t401 t402 t403 _ ?side1 ?side2 A10.out).mono ?_); (case side1 => repeat (first | exact (Kd.V_reads' HO_0.out).2.2 | (with_reducible refine Kd.C_alloc ?_ _) | (with_reducible refine Kd.C_drewN ?_ _) | (with_reducible refine Kd.C_drew ?_))); (case side2 => exact (Kd.V_reads' HO_0.out).2.1); rintro e w' ⟨rfl, ⟨nd, rfl⟩⟩; refine ⟨_, rfl, ?_⟩))
                    go_ret2
                    exact ⟨_, by first | rfl | (simp [errW_none, errW_some] <;> rfl) | (simp [*, errW_none, errW_some] <;> rfl), by first | exact Kd.R_nil _ _ _ _ _ | exact Kd.N_nil _ _ _ _ _ | exact Kd.V_nil _ _ _ _ _ | exact Kd.Q_nil _ _ _ _ _ | exact Kd.S_nil _ _ _ _ _, by repeat (first | (with_reducible first | exact HB.out | apply below_alloc | apply pw_below_drewN | apply below_drew1) | exact HB.out)⟩
                  · rw [if_neg c12] at H
                    have c12b0 : (t401 == 0) = false := beq_eq_false_iff_ne.mpr c12
                    have c12b1 : (t401 != 0) = true := bne_iff_ne.mpr c12
                    by_cases c15 : t401 > (IntKind.u64.wrap (wrap64 (a1 - (x6_2.length : Int))))
                    · rw [if_pos c15] at H
                      have c15b0 : decide ((IntKind.u64.wrap (wrap64 (a1 - (x6_2.length : Int)))) < t401) = true := decide_eq_true c15
                      clear c15
                      simp only [Option.some.injEq, Prod.mk.injEq] at H
                      obtain ⟨rfl, rfl⟩ := H
                      obtain ⟨Ao16, co16, eo16⟩ := Kd.R_slice HO_6.out
                      subst eo16
                      obtain ⟨Ao17, co17, eo17⟩ := Kd.V_slice HO_0.out
                      subst eo17
                      go_wp2_with (first | ((with_reducible refine gate_callee (f := 126) rfl ?_); refine goesL_ (some 30) rfl rfl Try.func126 (by kernel_rfl) rfl #[.slice Ao17 x0_2.length co17] rfl (by (try simp only [List.map_toArray, List.map_cons, List.map_nil]); first | done | rfl | (simp only [List.length_drop, List.length_take]; rfl)) ?_; (with_reducible refine (varint_Get.calls k2 _ _ x0_2 t401 t402 t403 _ ?side1 ?side2 A10.out).mono ?_); (case side1 => repeat (first | exact (Kd.V_reads' HO_0.out).2.2 | (with_reducible refine Kd.C_alloc ?_ _) | (with_reducible refine Kd.C_drewN ?_ _) | (with_reducible refine Kd.C_drew ?_))); (case side2 => exact (Kd.V_reads' HO_0.out).2.1); rintro e w' ⟨rfl, ⟨nd, rfl⟩⟩; refine ⟨_, rfl, ?_⟩))
                      go_ret2
                      exact ⟨_, by first | rfl | (simp [errW_none, errW_some] <;> rfl) | (simp [*, errW_none, errW_some] <;> rfl), by first | exact Kd.R_nil _ _ _ _ _ | exact Kd.N_nil _ _ _ _ _ | exact Kd.V_nil _ _ _ _ _ | exact Kd.Q_nil _ _ _ _ _ | exact Kd.S_nil _ _ _ _ _, by repeat (first | (with_reducible first | exact HB.out | apply below_alloc | apply pw_below_drewN | apply below_drew1) | exact HB.out)⟩
                    · rw [if_neg c15] at H
                      have c15b0 : decide ((IntKind.u64.wrap (wrap64 (a1 - (x6_2.length : Int)))) < t401) = false := decide_eq_false c15
                      clear c15
                      by_cases c18 : 0 ≤ t402
                      · rw [if_pos c18] at H
                        have c18b0 := eq_true c18
                        have c18b1 : decide (0 ≤ t402) = true := decide_eq_true c18
                        clear c18
                        by_cases c19 : t402 ≤ (x0_2.length : Int)
                        · rw [if_pos c19] at H
                          have c19b0 := eq_true c19
                          have c19b1 : decide (t402 ≤ (x0_2.length : Int)) = true := decide_eq_true c19
                          clear c19
                          obtain ⟨y404, hy404⟩ : ∃ y_ : List Int, y_ = (x0_2.drop (t402 : Int).toNat) := ⟨_, rfl⟩
                          replace H : ((varint_Get.f k2 y404).bind fun bt409 => (if bt409.2.2 = 0 then (if (x6_2.length : Int) > 0 then ((varint_Zag.f bt409.1).bind fun t412 => (if t412 = x9_2 then (some (([] : List Int), 21)) else (ints_Get.j2 k2 x0_2 a1 x6_2 x7_2 x8_2 t401 t402 bt409.1 bt409.2.1))) else (ints_Get.j2 k2 x0_2 a1 x6_2 x7_2 x8_2 t401 t402 bt409.1 bt409.2.1)) else (some (([] : List Int), bt409.2.2)))) = some (r1, r2) := by first | (rw [hy404]; with_reducible exact H) | (have H2_ := (Option.bind_some _ _).symm.trans H; rw [hy404]; with_reducible exact H2_) | (have H2_ := (Option.bind_some _ _).symm.trans H; with_reducible exact H2_) | with_reducible exact H | (rw [hy404]; exact H) | exact H
                          have Ny404 := Aside0.mk hy404
                          clear hy404
                          replace H := Option.bind_eq_some_iff.mp H
                          obtain ⟨⟨t409, t410, t411⟩, A200, H⟩ := H
                          replace H : (if t411 = 0 then (if (x6_2.length : Int) > 0 then ((varint_Zag.f t409).bind fun t412 => (if t412 = x9_2 then (some (([] : List Int), 21)) else (ints_Get.j2 k2 x0_2 a1 x6_2 x7_2 x8_2 t401 t402 t409 t410))) else (ints_Get.j2 k2 x0_2 a1 x6_2 x7_2 x8_2 t401 t402 t409 t410)) else (some (([] : List Int), t411))) = some (r1, r2) := H
                          have A20 := Aside0.mk A200
                          clear A200
                          have HC21 := Aside0.mk H
                          clear H
                          obtain ⟨Ao22, co22, eo22⟩ := Kd.R_slice HO_6.out
                          subst eo22
                          obtain ⟨Ao23, co23, eo23⟩ := Kd.V_slice HO_0.out
                          subst eo23
                          go_upto_block 3 with (first | ((with_reducible refine gate_callee (f := 126) rfl ?_); refine goesL_ (some 30) rfl rfl Try.func126 (by kernel_rfl) rfl #[.slice Ao23 x0_2.length co23] rfl (by (try simp only [List.map_toArray, List.map_cons, List.map_nil]); first | done | rfl | (simp only [List.length_drop, List.length_take]; rfl)) ?_; (with_reducible refine (varint_Get.calls k2 _ _ x0_2 t401 t402 t403 _ ?side1 ?side2 A10.out).mono ?_); (case side1 => repeat (first | exact (Kd.V_reads' HO_0.out).2.2 | (with_reducible refine Kd.C_alloc ?_ _) | (with_reducible refine Kd.C_drewN ?_ _) | (with_reducible refine Kd.C_drew ?_))); (case side2 => exact (Kd.V_reads' HO_0.out).2.1); rintro e w' ⟨rfl, ⟨nd, rfl⟩⟩; refine ⟨_, rfl, ?_⟩; have q24 : (t402 : Int) ≤ ((x0_2.length : Int) : Int) := of_decide_eq_true (by first | (with_reducible assumption) | assumption); obtain ⟨i024, hi024, _, hsz24, _⟩ := info_parts info5; have hroom24 : x0_2.length ≤ co23 := (Kd.V_reads' HO_0.out).2.1; have hC24 : Kd.F (Kd.int .u8) _ _ Ao23 x0_2.length x0_2 := (Kd.V_at (base := w.heap.size) HO_0.out).2.2; have q024 : (0 : Int) ≤ (t402 : Int) := of_decide_eq_true (by first | (with_reducible assumption) | assumption); have hcut24 := Go.Proofs.YtlmcefhpnfoahaaW.PrintWords.cut_from (P := Try.prog) 22 5 .i64 Try.underlying22 hi024 1 hsz24 Ao23 x0_2.length co23 t402 q024 q24; have hr24 := Kd.F_cut (m := (t402 : Int).toNat) (c := co23) hC24 (by omega) hroom24; obtain ⟨A24, hA24⟩ : ∃ A1, A1 = (if co23 = (t402 : Int).toNat then Ao23 else (Ao23 : Option Addr).map (·.add ((t402 : Int).toNat * 1))) := ⟨_, rfl⟩; obtain ⟨c24, hc24⟩ : ∃ c1, c1 = co23 - (t402 : Int).toNat := ⟨_, rfl⟩; have hy24 : y404.length = x0_2.length - (t402 : Int).toNat := (by rw [Ny404.out, List.length_drop] <;> omega); rw [show (x0_2).drop (t402 : Int).toNat = y404 from Ny404.out.symm] at hr24; replace hr24 : Kd.F (Kd.int .u8) _ _ A24 y404.length y404 := (by rw [hA24]; exact hr24); rw [← hy24, ← hA24, ← hc24] at hcut24; have HO408 := Aside0.mk (show Kd.V (Kd.int .u8) 5 _ w.heap.size _ (.slice A24 y404.length c24) y404 from Kd.V_mk (by rw [hy24, hc24]; exact Nat.sub_le_sub_right hroom24 _) hr24); have HC408 := Aside0.mk (show y404.length ≤ c24 from by rw [hy24, hc24]; exact Nat.sub_le_sub_right hroom24 _); clear hr24 hC24 hroom24 hi024 hsz24 hc24; have KY24 := Aside0.mk hy24; have KA24 := Aside0.mk hA24; clear hy24 hA24; replace q24 := eq_true q24) | ((with_reducible refine gate_callee (f := 126) rfl ?_); refine goesL_ (some 54) rfl rfl Try.func126 (by kernel_rfl) rfl #[.slice A24 y404.length c24] rfl (by (try simp only [List.map_toArray, List.map_cons, List.map_nil]); first | done | rfl | (simp only [List.length_drop, List.length_take]; rfl)) ?_; (with_reducible refine (varint_Get.calls k2 _ _ y404 t409 t410 t411 _ ?side1 ?side2 A20.out).mono ?_); (case side1 => repeat (first | exact (Kd.V_reads' HO408.out).2.2 | (with_reducible refine Kd.C_alloc ?_ _) | (with_reducible refine Kd.C_drewN ?_ _) | (with_reducible refine Kd.C_drew ?_))); (case side2 => exact (Kd.V_reads' HO408.out).2.1); rintro e w' ⟨rfl, ⟨nd, rfl⟩⟩; refine ⟨_, rfl, ?_⟩))
                          (try simp only [Act.put, List.setIfInBounds_toArray, List.set_cons_zero, List.set_cons_succ])
                          go_cut [] (fun wc => ∃ (kq : Nat), Aside0 (ints_Get.j2 kq x0_2 a1 x6_2 x7_2 x8_2 t401 t402 t409 t410 = some (r1, r2)) ∧ Aside0 (kq ≤ k2) ∧ Aside0 (Kd.V (Kd.int .u8) 5 wc w.heap.size (fun k_ => (P0_ k_ ∨ w.heap.size ≤ k_) ∧ some k_ ≠ ((.slice Ao22 x6_2.length co22) : Value).ownBlock) (.slice Ao23 x0_2.length co23) x0_2) ∧ Aside0 (Kd.R (Kd.int .i64) 2 wc w.heap.size (fun k_ => (w.heap.size ≤ k_)) (.slice Ao22 x6_2.length co22) x6_2) ∧ Aside0 (Below w.heap.size w wc))
                          case first =>
                            have H := HC21.out
                            clear HC21
                            by_cases c25 : t411 = 0
                            · rw [if_pos c25] at H
                              have c25b0 : (t411 == 0) = true := beq_iff_eq.mpr c25
                              have c25b1 : (t411 != 0) = false := bne_eq_false_iff_eq.mpr c25
                              clear c25
                              (first | rw [c25b0] | (simp only [i64_w, i32_w]; rw [c25b0]) | skip)
                              by_cases c26 : (x6_2.length : Int) > 0
                              · rw [if_pos c26] at H
                                have c26b0 : decide (0 < (x6_2.length : Int)) = true := decide_eq_true c26
                                have c26b1 : decide (0 < x6_2.length) = true := decide_eq_true (by omega)
                                clear c26
                                replace H := Option.bind_eq_some_iff.mp H
                                obtain ⟨t412, A270, H⟩ := H
                                replace H : (if t412 = x9_2 then (some (([] : List Int), 21)) else (ints_Get.j2 k2 x0_2 a1 x6_2 x7_2 x8_2 t401 t402 t409 t410)) = some (r1, r2) := H
                                have A27 := Aside0.mk A270
                                clear A270
                                by_cases c28 : t412 = x9_2
                                · rw [if_pos c28] at H
                                  have c28b0 : (t412 == x9_2) = true := beq_iff_eq.mpr c28
                                  have c28b1 : (t412 != x9_2) = false := bne_eq_false_iff_eq.mpr c28
                                  clear c28
                                  simp only [Option.some.injEq, Prod.mk.injEq] at H
                                  obtain ⟨rfl, rfl⟩ := H
                                  go_wp2_with (first | (go_at_call 127; (with_reducible refine (varint_Zag.calls t409 t412 _ A27.out).mono ?_); rintro e w' ⟨rfl, ⟨nd, rfl⟩⟩))
                                  go_ret2
                                  exact ⟨_, by first | rfl | (simp [errW_none, errW_some] <;> rfl) | (simp [*, errW_none, errW_some] <;> rfl), by first | exact Kd.R_nil _ _ _ _ _ | exact Kd.N_nil _ _ _ _ _ | exact Kd.V_nil _ _ _ _ _ | exact Kd.Q_nil _ _ _ _ _ | exact Kd.S_nil _ _ _ _ _, by repeat (first | (with_reducible first | exact HB.out | apply below_alloc | apply pw_below_drewN | apply below_drew1) | exact HB.out)⟩
                                · rw [if_neg c28] at H
                                  have c28b0 : (t412 == x9_2) = false := beq_eq_false_iff_ne.mpr c28
                                  have c28b1 : (t412 != x9_2) = true := bne_iff_ne.mpr c28
                                  have H' := Aside0.mk H
                                  clear H
                                  go_wp2_with (first | (go_at_call 127; (with_reducible refine (varint_Zag.calls t409 t412 _ A27.out).mono ?_); rintro e w' ⟨rfl, ⟨nd, rfl⟩⟩))
                                  go_meet
                                  case rel => exact ⟨_, H', ⟨by have := HJ2.out; have := HK2.out; first | omega | exact Nat.le_refl _⟩, ⟨by (with_reducible repeat (first | apply Kd.V_alloc | apply Kd.V_drewN | apply Kd.V_drew)); exact HO_0.out⟩, ⟨by (with_reducible repeat (first | apply Kd.R_alloc | apply Kd.R_drewN | apply Kd.R_drew)); exact HO_6.out⟩, ⟨by repeat (first | (with_reducible first | exact HB.out | apply below_alloc | apply pw_below_drewN | apply below_drew1) | exact HB.out)⟩⟩
                              · rw [if_neg c26] at H
                                have c26b0 : decide (0 < (x6_2.length : Int)) = false := decide_eq_false c26
                                have c26b1 : decide (0 < x6_2.length) = false := decide_eq_false (by omega)
                                clear c26
                                have H' := Aside0.mk H
                                clear H
                                go_wp2
                                go_meet
                                case rel => exact ⟨_, H', ⟨by have := HJ2.out; have := HK2.out; first | omega | exact Nat.le_refl _⟩, ⟨by (with_reducible repeat (first | apply Kd.V_alloc | apply Kd.V_drewN | apply Kd.V_drew)); exact HO_0.out⟩, ⟨by (with_reducible repeat (first | apply Kd.R_alloc | apply Kd.R_drewN | apply Kd.R_drew)); exact HO_6.out⟩, ⟨by repeat (first | (with_reducible first | exact HB.out | apply below_alloc | apply pw_below_drewN | apply below_drew1) | exact HB.out)⟩⟩
                            · rw [if_neg c25] at H
                              have c25b0 : (t411 == 0) = false := beq_eq_false_iff_ne.mpr c25
                              have c25b1 : (t411 != 0) = true := bne_iff_ne.mpr c25
                              (first | rw [c25b0] | (simp only [i64_w, i32_w]; rw [c25b0]) | skip)
                              simp only [Option.some.injEq, Prod.mk.injEq] at H
                              obtain ⟨rfl, rfl⟩ := H
                              go_wp2
                              go_ret2
                              exact ⟨_, by first | rfl | (simp [errW_none, errW_some] <;> rfl) | (simp [*, errW_none, errW_some] <;> rfl), by first | exact Kd.R_nil _ _ _ _ _ | exact Kd.N_nil _ _ _ _ _ | exact Kd.V_nil _ _ _ _ _ | exact Kd.Q_nil _ _ _ _ _ | exact Kd.S_nil _ _ _ _ _, by repeat (first | (with_reducible first | exact HB.out | apply below_alloc | apply pw_below_drewN | apply below_drew1) | exact HB.out)⟩
                          case rest =>
                            clear HC21
                            try clear c1
                            try clear c2
                            try clear p2
                            try clear q2
                            try clear c4
                            try clear c4b0
                            try clear c5
                            try clear c6
                            try clear c6b0
                            try clear p6
                            try clear c7
                            try clear c7b0
                            try clear c7b1
                            try clear c7b2
                            try clear c11
                            try clear c11b0
                            try clear c11b1
                            try clear c12
                            try clear c12b0
                            try clear c12b1
                            try clear c15
                            try clear c15b0
                            try clear c18
                            try clear c18b0
                            try clear c18b1
                            try clear c19
                            try clear c19b0
                            try clear c19b1
                            try clear c24
                            try clear q24
                            try clear c25
                            try clear c25b0
                            try clear c25b1
                            try clear c26
                            try clear c26b0
                            try clear c26b1
                            try clear c28
                            try clear c28b0
                            try clear c28b1
                            try clear p2
                            try clear q024
                            try clear q24
                            obtain ⟨kq, HA, HJ20, HO_0, HO_6, HB⟩ := hcut
                            cases kq with
                            | zero => exact absurd HA.out (by simp [ints_Get.j2])
                            | succ kj20 =>
                              have H := HA.out
                              clear HA
                              simp only [ints_Get.j2] at H
                              obtain ⟨ji29, hji29⟩ : ∃ j_ : Int, (wrap64 (t402 + t410)) = j_ := ⟨_, rfl⟩
                              replace H : (if 0 ≤ (ji29) then (if (ji29) ≤ (x0_2.length : Int) then ((varint_Zag.f t409).bind fun t418 => (ints_Get.l1 kj20 (x0_2.drop ((ji29) : Int).toNat) a1 x6_2 x7_2 x8_2 t418 t401 0)) else (none)) else (none)) = some (r1, r2) := by first | (rw [hji29] at H; exact H) | (simp only [hji29] at H ⊢; exact H)
                              have hji29w : (IntKind.i64.wrap (t402 + t410)) = ji29 := (i64_w _).trans hji29
                              by_cases c30 : 0 ≤ (ji29)
                              · rw [if_pos c30] at H
                                have c30b0 := eq_true c30
                                have c30b1 : decide (0 ≤ (ji29)) = true := decide_eq_true c30
                                clear c30
                                by_cases c31 : (ji29) ≤ (x0_2.length : Int)
                                · rw [if_pos c31] at H
                                  have c31b0 := eq_true c31
                                  have c31b1 : decide ((ji29) ≤ (x0_2.length : Int)) = true := decide_eq_true c31
                                  clear c31
                                  obtain ⟨y413, hy413⟩ : ∃ y_ : List Int, y_ = (x0_2.drop ((ji29) : Int).toNat) := ⟨_, rfl⟩
                                  replace H : ((varint_Zag.f t409).bind fun t418 => (ints_Get.l1 kj20 y413 a1 x6_2 x7_2 x8_2 t418 t401 0)) = some (r1, r2) := by first | (rw [hy413]; with_reducible exact H) | (have H2_ := (Option.bind_some _ _).symm.trans H; rw [hy413]; with_reducible exact H2_) | (have H2_ := (Option.bind_some _ _).symm.trans H; with_reducible exact H2_) | with_reducible exact H | (rw [hy413]; exact H) | exact H
                                  have Ny413 := Aside0.mk hy413
                                  clear hy413
                                  replace H := Option.bind_eq_some_iff.mp H
                                  obtain ⟨t418, A320, H⟩ := H
                                  replace H : (ints_Get.l1 kj20 y413 a1 x6_2 x7_2 x8_2 t418 t401 0) = some (r1, r2) := H
                                  have A32 := Aside0.mk A320
                                  clear A320
                                  have H' := Aside0.mk H
                                  clear H
                                  have q33 : ((ji29) : Int) ≤ ((x0_2.length : Int) : Int) := of_decide_eq_true (by first | (with_reducible assumption) | assumption)
                                  obtain ⟨i033, hi033, _, hsz33, _⟩ := info_parts info5
                                  have hroom33 : x0_2.length ≤ co23 := (Kd.V_reads' HO_0.out).2.1
                                  have hC33 : Kd.F (Kd.int .u8) _ _ Ao23 x0_2.length x0_2 := (Kd.V_at (base := w.heap.size) HO_0.out).2.2
                                  have q033 : (0 : Int) ≤ ((ji29) : Int) := of_decide_eq_true (by first | (with_reducible assumption) | assumption)
                                  have hcut33 := Go.Proofs.YtlmcefhpnfoahaaW.PrintWords.cut_from (P := Try.prog) 22 5 .i64 Try.underlying22 hi033 1 hsz33 Ao23 x0_2.length co23 (ji29) q033 q33
                                  have hr33 := Kd.F_cut (m := ((ji29) : Int).toNat) (c := co23) hC33 (by omega) hroom33
                                  obtain ⟨A33, hA33⟩ : ∃ A1, A1 = (if co23 = ((ji29) : Int).toNat then Ao23 else (Ao23 : Option Addr).map (·.add (((ji29) : Int).toNat * 1))) := ⟨_, rfl⟩
                                  obtain ⟨c33, hc33⟩ : ∃ c1, c1 = co23 - ((ji29) : Int).toNat := ⟨_, rfl⟩
                                  have hy33 : y413.length = x0_2.length - ((ji29) : Int).toNat := (by rw [Ny413.out, List.length_drop] <;> omega)
                                  rw [show (x0_2).drop ((ji29) : Int).toNat = y413 from Ny413.out.symm] at hr33
                                  replace hr33 : Kd.F (Kd.int .u8) _ _ A33 y413.length y413 := (by rw [hA33]; exact hr33)
                                  rw [← hy33, ← hA33, ← hc33] at hcut33
                                  have HO417 := Aside0.mk (show Kd.V (Kd.int .u8) 5 _ w.heap.size _ (.slice A33 y413.length c33) y413 from Kd.V_mk (by rw [hy33, hc33]; exact Nat.sub_le_sub_right hroom33 _) hr33)
                                  have HC417 := Aside0.mk (show y413.length ≤ c33 from by rw [hy33, hc33]; exact Nat.sub_le_sub_right hroom33 _)
                                  clear hr33 hC33 hroom33 hi033 hsz33 hc33
                                  have KY33 := Aside0.mk hy33
                                  have KA33 := Aside0.mk hA33
                                  clear hy33 hA33
                                  replace q33 := eq_true q33
                                  go_wp2_with (first | ((with_reducible refine gate_callee (f := 127) rfl ?_); refine goesL_ (some 78) rfl rfl Try.func127 (by kernel_rfl) rfl #[.int .u64 t409] rfl (by (try simp only [List.map_toArray, List.map_cons, List.map_nil]); first | done | rfl | (simp only [List.length_drop, List.length_take]; rfl)) ?_; (with_reducible refine (varint_Zag.calls t409 t418 _ A32.out).mono ?_); rintro e w' ⟨rfl, ⟨nd, rfl⟩⟩; refine ⟨_, rfl, ?_⟩))
                                  go_loopg [6, 7, 8, 80] kj20 (fun kq v6 v7 v8 v80 w' => ∃ (x6_4 : List Int) (x7_4 : Int) (x8_4 : Int) (x80_4 : Int), v7 = .int .i64 x7_4 ∧ v8 = .int .i64 x8_4 ∧ v80 = .int .u64 x80_4 ∧ Aside0 (ints_Get.l1 kq y413 a1 x6_4 x7_4 x8_4 t418 t401 x80_4 = some (r1, r2)) ∧ Aside0 (kq ≤ kj20) ∧ Aside0 (Kd.V (Kd.int .u8) 5 w' w.heap.size (fun k_ => (P0_ k_ ∨ w.heap.size ≤ k_) ∧ some k_ ≠ (v6 : Value).ownBlock) (.slice A33 y413.length c33) y413) ∧ Aside0 (Kd.R (Kd.int .i64) 2 w' w.heap.size (fun k_ => (w.heap.size ≤ k_)) v6 x6_4) ∧ Aside0 (Below w.heap.size w w'))
                                  case atStart => exact ⟨(x6_2), (x7_2), (x8_2), (0), (by first | rfl | (simp; done) | (simp [*]; done)), (by first | rfl | (simp; done) | (simp [*]; done)), (by first | rfl | (simp; done) | (simp [*]; done)), H', ⟨Nat.le_refl _⟩, ⟨by (with_reducible repeat (first | apply Kd.V_alloc | apply Kd.V_drewN | apply Kd.V_drew)); exact HO417.out⟩, ⟨by (with_reducible repeat (first | apply Kd.R_alloc | apply Kd.R_drewN | apply Kd.R_drew)); exact HO_6.out⟩, ⟨by repeat (first | (with_reducible first | exact HB.out | apply below_alloc | apply pw_below_drewN | apply below_drew1) | exact HB.out)⟩⟩
                                  case round =>
                                    clear H'
                                    try clear c1
                                    try clear c2
                                    try clear p2
                                    try clear q2
                                    try clear c3
                                    try clear q3
                                    try clear c4
                                    try clear c4b0
                                    try clear c5
                                    try clear c6
                                    try clear c6b0
                                    try clear p6
                                    try clear c7
                                    try clear c7b0
                                    try clear c7b1
                                    try clear c7b2
                                    try clear c11
                                    try clear c11b0
                                    try clear c11b1
                                    try clear c12
                                    try clear c12b0
                                    try clear c12b1
                                    try clear c15
                                    try clear c15b0
                                    try clear c18
                                    try clear c18b0
                                    try clear c18b1
                                    try clear c19
                                    try clear c19b0
                                    try clear c19b1
                                    try clear c24
                                    try clear q24
                                    try clear c25
                                    try clear c25b0
                                    try clear c25b1
                                    try clear c26
                                    try clear c26b0
                                    try clear c26b1
                                    try clear c28
                                    try clear c28b0
                                    try clear c28b1
                                    try clear c30
                                    try clear c30b0
                                    try clear c30b1
                                    try clear c31
                                    try clear c31b0
                                    try clear c31b1
                                    try clear c33
                                    try clear q33
                                    try clear p2
                                    try clear p6
                                    try clear q024
                                    try clear q033
                                    try clear q2
                                    try clear q24
                                    try clear q33
                                    obtain ⟨x6_4, x7_4, x8_4, x80_4, rfl, rfl, rfl, HA, HK4, HO_0, HO_6, HB⟩ := hrel
                                    cases gk with
                                    | zero => exact absurd HA.out (by simp [ints_Get.l1])
                                    | succ k4 =>
                                      have H := HA.out
                                      clear HA
                                      simp only [ints_Get.l1] at H
                                      by_cases c34 : x80_4 < t401
                                      · rw [if_pos c34] at H
                                        have c34b0 : decide (x80_4 < t401) = true := decide_eq_true c34
                                        clear c34
                                        by_cases c35 : x6_4.length < 17592186044416
                                        · rw [if_pos c35] at H
                                          have LMc35 := Aside0.mk c35
                                          clear c35
                                          obtain ⟨y419, hy419⟩ : ∃ y_ : List Int, y_ = (x6_4 ++ [wrap64 (x7_4 + (wrap64 (x8_4 + t418)))]) := ⟨_, rfl⟩
                                          replace H : (ints_Get.l1 k4 y413 a1 y419 (wrap64 (x7_4 + (wrap64 (x8_4 + t418)))) (wrap64 (x8_4 + t418)) t418 t401 (IntKind.u64.wrap (x80_4 + 1))) = some (r1, r2) := by first | (rw [hy419]; with_reducible exact H) | (have H2_ := (Option.bind_some _ _).symm.trans H; rw [hy419]; with_reducible exact H2_) | (have H2_ := (Option.bind_some _ _).symm.trans H; with_reducible exact H2_) | with_reducible exact H | (rw [hy419]; exact H) | exact H
                                          have Ny419 := Aside0.mk hy419
                                          clear hy419
                                          have H' := Aside0.mk H
                                          clear H
                                          go_wp2_with (first | ((with_reducible refine gate_builtin (b := .append) (xs := #[.tmp 88, .tmp 90]) rfl ?_); (try (refine gate_guard (by rfl) ?_; dsimp only)); at_builtin; refine Kd.R_append (Kd.int .i64) (w0 := w) w.heap.size rfl (.tmp 88) (.tmp 90) 122 2 (.int .i64 0) 8 rfl Try.underlying122 info2 rfl (by decide) (by omega) u6 x6_4 (wrap64 (x7_4 + (wrap64 (x8_4 + t418)))) [.int .i64 (wrap64 (x7_4 + (wrap64 (x8_4 + t418))))] (fun k_ => (w.heap.size ≤ k_)) (fun _ => False) rfl rfl ?aP (fun _ hk => hk.elim) ?aF ?aO ?aB ?aS ?aL ?_; (case aP => exact rfl); (case aB => exact (by repeat (first | (with_reducible first | exact HB.out | apply below_alloc | apply pw_below_drewN | apply below_drew1) | exact HB.out))); (case aF => exact (fun k_ hk => (Nat.le_trans (below_size (by repeat (first | (with_reducible first | exact HB.out | apply below_alloc | apply pw_below_drewN | apply below_drew1) | exact HB.out))) hk))); (case aO => exact (by (with_reducible repeat (first | apply Kd.R_alloc | apply Kd.R_drewN | apply Kd.R_drew)); exact HO_6.out)); (case aS => exact (below_size (by repeat (first | (with_reducible first | exact HB.out | apply below_alloc | apply pw_below_drewN | apply below_drew1) | exact HB.out)))); (case aL => have := LMc35.out; omega); intro v420 w36 ho hb hg hat; rw [← Ny419.out] at ho; have n0_ := Aside0.mk (Kd.V_afterv (ok := (fun k_ => (P0_ k_ ∨ w.heap.size ≤ k_))) (by (with_reducible repeat (first | apply Kd.V_alloc | apply Kd.V_drewN | apply Kd.V_drew)); exact HO_0.out) hg hat); have n1_ := Aside0.mk (hb); have n2_ := Aside0.mk (ho); clear HO_0; clear HB; clear HO_6; have HO_0 := n0_; have HB := n1_; have HO421 := n2_; clear n0_ n1_ n2_; clear ho hb hg hat))
                                          go_roundg k4
                                          case measure => have := HJ2.out; have := HK2.out; have := HJ20.out; have := HK4.out; omega
                                          case rel => exact ⟨(y419), (wrap64 (x7_4 + (wrap64 (x8_4 + t418)))), (wrap64 (x8_4 + t418)), (IntKind.u64.wrap (x80_4 + 1)), (by first | rfl | (simp; done) | (simp [*]; done)), (by first | rfl | (simp; done) | (simp [*]; done)), (by first | rfl | (simp; done) | (simp [*]; done)), H', ⟨by have := HJ2.out; have := HK2.out; have := HJ20.out; have := HK4.out; omega⟩, ⟨by (with_reducible repeat (first | apply Kd.V_alloc | apply Kd.V_drewN | apply Kd.V_drew)); exact HO_0.out⟩, ⟨by (with_reducible repeat (first | apply Kd.R_alloc | apply Kd.R_drewN | apply Kd.R_drew)); exact HO421.out⟩, ⟨by repeat (first | (with_reducible first | exact HB.out | apply below_alloc | apply pw_below_drewN | apply below_drew1) | exact HB.out)⟩⟩
                                        · rw [if_neg c35] at H
                                          exact absurd H (by simp)
                                      · rw [if_neg c34] at H
                                        have c34b0 : decide (x80_4 < t401) = false := decide_eq_false c34
                                        clear c34
                                        have H' := Aside0.mk H
                                        clear H
                                        go_wp2
                                        go_roundg k4
                                        case measure => have := HJ2.out; have := HK2.out; have := HJ20.out; have := HK4.out; omega
                                        case rel => exact ⟨(y413), (x6_4), (x7_4), (x8_4), (t418), (by first | rfl | (simp; done) | (simp [*]; done)), (by first | rfl | (simp; done) | (simp [*]; done)), (by first | rfl | (simp; done) | (simp [*]; done)), H', ⟨by have := HJ2.out; have := HK2.out; have := HJ20.out; have := HK4.out; omega⟩, ⟨by (with_reducible repeat (first | apply Kd.V_alloc | apply Kd.V_drewN | apply Kd.V_drew)); exact HO_0.out⟩, ⟨by (with_reducible repeat (first | apply Kd.R_alloc | apply Kd.R_drewN | apply Kd.R_drew)); exact HO_6.out⟩, ⟨by repeat (first | (with_reducible first | exact HB.out | apply below_alloc | apply pw_below_drewN | apply below_drew1) | exact HB.out)⟩⟩
                                · rw [if_neg c31] at H
                                  exact absurd H (by simp)
                              · rw [if_neg c30] at H
                                exact absurd H (by simp)
                        · rw [if_neg c19] at H
                          exact absurd H (by simp)
                      · rw [if_neg c18] at H
                        exact absurd H (by simp)
                · rw [if_neg c11] at H
                  have c11b0 : (t403 == 0) = false := beq_eq_false_iff_ne.mpr c11
                  have c11b1 : (t403 != 0) = true := bne_iff_ne.mpr c11
                  simp only [Option.some.injEq, Prod.mk.injEq] at H
                  obtain ⟨rfl, rfl⟩ := H
                  obtain ⟨Ao37, co37, eo37⟩ := Kd.R_slice HO_6.out
                  subst eo37
                  obtain ⟨Ao38, co38, eo38⟩ := Kd.V_slice HO_0.out
                  subst eo38
                  go_wp2_with (first | ((with_reducible refine gate_callee (f := 126) rfl ?_); refine goesL_ (some 30) rfl rfl Try.func126 (by kernel_rfl) rfl #[.slice Ao38 x0_2.length co38] rfl (by (try simp only [List.map_toArray, List.map_cons, List.map_nil]); first | done | rfl | (simp only [List.length_drop, List.length_take]; rfl)) ?_; (with_reducible refine (varint_Get.calls k2 _ _ x0_2 t401 t402 t403 _ ?side1 ?side2 A10.out).mono ?_); (case side1 => repeat (first | exact (Kd.V_reads' HO_0.out).2.2 | (with_reducible refine Kd.C_alloc ?_ _) | (with_reducible refine Kd.C_drewN ?_ _) | (with_reducible refine Kd.C_drew ?_))); (case side2 => exact (Kd.V_reads' HO_0.out).2.1); rintro e w' ⟨rfl, ⟨nd, rfl⟩⟩; refine ⟨_, rfl, ?_⟩))
                  go_ret2
                  exact ⟨_, by first | rfl | (simp [errW_none, errW_some] <;> rfl) | (simp [*, errW_none, errW_some] <;> rfl), by first | exact Kd.R_nil _ _ _ _ _ | exact Kd.N_nil _ _ _ _ _ | exact Kd.V_nil _ _ _ _ _ | exact Kd.Q_nil _ _ _ _ _ | exact Kd.S_nil _ _ _ _ _, by repeat (first | (with_reducible first | exact HB.out | apply below_alloc | apply pw_below_drewN | apply below_drew1) | exact HB.out)⟩
            · rw [if_neg c6] at H
              have c6b0 : decide ((x6_2.length : Int) < a1) = false := decide_eq_false c6
              clear c6
              by_cases c39 : (x0_2.length : Int) > 0
              · rw [if_pos c39] at H
                have c39b0 : decide (0 < (x0_2.length : Int)) = true := decide_eq_true c39
                have c39b1 : decide (0 < x0_2.length) = true := decide_eq_true (by omega)
                clear c39
                simp only [Option.some.injEq, Prod.mk.injEq] at H
                obtain ⟨rfl, rfl⟩ := H
                obtain ⟨Ao40, co40, eo40⟩ := Kd.R_slice HO_6.out
                subst eo40
                obtain ⟨Ao41, co41, eo41⟩ := Kd.V_slice HO_0.out
                subst eo41
                go_wp2
                go_ret2
                exact ⟨_, by first | rfl | (simp [errW_none, errW_some] <;> rfl) | (simp [*, errW_none, errW_some] <;> rfl), by first | exact Kd.R_nil _ _ _ _ _ | exact Kd.N_nil _ _ _ _ _ | exact Kd.V_nil _ _ _ _ _ | exact Kd.Q_nil _ _ _ _ _ | exact Kd.S_nil _ _ _ _ _, by repeat (first | (with_reducible first | exact HB.out | apply below_alloc | apply pw_below_drewN | apply below_drew1) | exact HB.out)⟩
              · rw [if_neg c39] at H
                have c39b0 : decide (0 < (x0_2.length : Int)) = false := decide_eq_false c39
                have c39b1 : decide (0 < x0_2.length) = false := decide_eq_false (by omega)
                clear c39
                simp only [Option.some.injEq, Prod.mk.injEq] at H
                obtain ⟨rfl, rfl⟩ := H
                obtain ⟨Ao42, co42, eo42⟩ := Kd.R_slice HO_6.out
                subst eo42
                obtain ⟨Ao43, co43, eo43⟩ := Kd.V_slice HO_0.out
                subst eo43
                go_wp2
                go_ret2
                exact ⟨_, by first | rfl | (simp [errW_none, errW_some] <;> rfl) | (simp [*, errW_none, errW_some] <;> rfl), by (with_reducible repeat (first | apply Kd.R_alloc | apply Kd.R_drewN | apply Kd.R_drew)); exact HO_6.out, by repeat (first | (with_reducible first | exact HB.out | apply below_alloc | apply pw_below_drewN | apply below_drew1) | exact HB.out)⟩

end Go.Proofs.Ytlmcefhpnfoahaa.P
end

section
namespace Go.Proofs.Ytlmcefhpnfoahaa.P
open Go.RowKit Go.Proofs.YtlmcefhpnfoahaaW.PrintWords Go.Proofs.YtlmcefhpnfoahaaW.PrintLast Go.Proofs.YtlmcefhpnfoahaaW.PrintMore
attribute [local go_sem] max2_int min2_int max_two min_two max_three min_three max_four min_four   -- for this text's walks alone
set_option linter.unusedVariables false
set_option linter.unusedSimpArgs false

def column_getNumbers.l0 : Nat → List (S39) → List Int → Int → Int → Option ((List (S39)) × Int)
  | 0, _, _, _, _ => none
  | k + 1, x8, x20, x21, x22 => if x22 < x21 then (if 0 ≤ x22 then (if x22 < (x20.length : Int) then (if x8.length < 4398046511104 then (column_getNumbers.l0 k (x8 ++ [(⟨2, rd x20 x22, (⟨#[]⟩ : ByteArray)⟩ : S39)]) x20 x21 (wrap64 (x22 + 1))) else (none)) else (none)) else (none)) else (some (x8, 0))
def column_getNumbers.f (k : Nat) (l0 : List Int) (a1 : Int) : Option ((List (S39)) × Int) := (ints_Get.f k l0 a1).bind fun bt422 => (if bt422.2 = 0 then (column_getNumbers.l0 k ([] : List (S39)) bt422.1 (bt422.1.length : Int) 0) else (some (([] : List (S39)), bt422.2)))
set_option maxHeartbeats 8000000 in
set_option maxRecDepth 100000 in
theorem column_getNumbers.calls (k : Nat) (A0 : Option Addr) (c0 : Nat) (l0 : List Int) (a1 : Int) (r1 : List (S39)) (r2 : Int) (w : World) (hr0 : Kd.C (Kd.int .u8) w A0 l0.length l0) (hc0 : l0.length ≤ c0) (h : column_getNumbers.f k l0 a1 = some (r1, r2)) :
    Calls Try.prog 136 #[.slice A0 l0.length c0, .int .i64 a1] w fun e w' => ∃ v0_ : Value, e = .returned (.tuple #[v0_, .int .i64 r2]) ∧ Kd.R k39 39 w' w.heap.size (fun _ => True) v0_ r1 ∧ Below w.heap.size w w' := by
  have hu39 := Try.underlying39
  have HR0 := Aside0.mk hr0
  have HC0 := Aside0.mk hc0
  clear hr0 hc0
  have HB := Aside0.mk (Below.refl w.heap.size w)
  have H : ((ints_Get.f k l0 a1).bind fun bt422 => (if bt422.2 = 0 then (column_getNumbers.l0 k ([] : List (S39)) bt422.1 (bt422.1.length : Int) 0) else (some (([] : List (S39)), bt422.2)))) = some (r1, r2) := h
  clear h
  replace H := Option.bind_eq_some_iff.mp H
  obtain ⟨⟨t422, t425⟩, A30, H⟩ := H
  replace H : (if t425 = 0 then (column_getNumbers.l0 k ([] : List (S39)) t422 (t422.length : Int) 0) else (some (([] : List (S39)), t425))) = some (r1, r2) := H
  have A3 := Aside0.mk A30
  clear A30
  by_cases c4 : t425 = 0
  · rw [if_pos c4] at H
    have c4b0 : (t425 == 0) = true := beq_iff_eq.mpr c4
    have c4b1 : (t425 != 0) = false := bne_eq_false_iff_eq.mpr c4
    clear c4
    have H' := Aside0.mk H
    clear H
    go_enter Try.func136, Try.ntmps136
    go_wp2_with (first | ((with_reducible refine gate_callee (f := 152) rfl ?_); refine goesL_ (some 14) rfl rfl Try.func152 (by kernel_rfl) rfl #[.slice A0 l0.length c0, .int .i64 a1] rfl (by (try simp only [List.map_toArray, List.map_cons, List.map_nil]); first | done | rfl | (simp only [List.length_drop, List.length_take]; rfl)) ?_; (with_reducible refine (ints_Get.calls k (fun k_ => k_ < w.heap.size) _ _ l0 a1 t422 t425 _ ?side1 A3.out).mono ?_); (case side1 => exact Kd.V_mk HC0.out (Kd.F_below (Kd.C_F (Kd.heap_int .u8) HR0.out) (by repeat (first | (with_reducible first | exact HB.out | apply below_alloc | apply pw_below_drewN | apply below_drew1) | exact HB.out)))); rintro e w5 ⟨v423, rfl, ho0, hb⟩; refine ⟨_, rfl, ?_⟩; have n0_ := Aside0.mk (Kd.R_lower (Kd.R_mono (ok' := fun k_ => True) ho0 (fun _ hk_ => trivial)) (below_size (by repeat (first | (with_reducible first | exact HB.out | apply below_alloc | apply pw_below_drewN | apply below_drew1) | exact HB.out)))); have n1_ := Aside0.mk (below_step (by repeat (first | (with_reducible first | exact HB.out | apply below_alloc | apply pw_below_drewN | apply below_drew1) | exact HB.out)) hb); clear HB; have HO424 := n0_; have HB := n1_; clear n0_ n1_; (try clear hb); (try clear hb2); (try clear hk); (try clear hi); (try clear ho0); obtain ⟨Ao6, co6, eo6⟩ := Kd.R_slice HO424.out; subst eo6))
    go_loopg [8, 22] k (fun kq v8 v22 w' => ∃ (x8_1 : List (S39)) (x22_1 : Int), v22 = .int .i64 x22_1 ∧ Aside0 (column_getNumbers.l0 kq x8_1 t422 (t422.length : Int) x22_1 = some (r1, r2)) ∧ Aside0 (kq ≤ k) ∧ Aside0 (Kd.R k39 39 w' w.heap.size (fun _ => True) v8 x8_1) ∧ Aside0 (Kd.R (Kd.int .i64) 2 w' w.heap.size (fun _ => True) (.slice Ao6 t422.length co6) t422) ∧ Aside0 (Below w.heap.size w w'))
    case atStart => exact ⟨(([] : List (S39))), (0), (by first | rfl | (simp; done) | (simp [*]; done)), H', ⟨Nat.le_refl _⟩, ⟨by first | exact Kd.R_nil _ _ _ _ _ | exact Kd.N_nil _ _ _ _ _ | exact Kd.V_nil _ _ _ _ _ | exact Kd.Q_nil _ _ _ _ _ | exact Kd.S_nil _ _ _ _ _⟩, ⟨by (with_reducible repeat (first | apply Kd.R_alloc | apply Kd.R_drewN | apply Kd.R_drew)); exact HO424.out⟩, ⟨by repeat (first | (with_reducible first | exact HB.out | apply below_alloc | apply pw_below_drewN | apply below_drew1) | exact HB.out)⟩⟩
    case round =>
      clear H'
      try clear c1
      try clear p2
      try clear c4
      try clear c4b0
      try clear c4b1
      obtain ⟨x8_1, x22_1, rfl, HA, HK1, HO_8, HO_20, HB⟩ := hrel
      cases gk with
      | zero => exact absurd HA.out (by simp [column_getNumbers.l0])
      | succ k1 =>
        have H := HA.out
        clear HA
        simp only [column_getNumbers.l0] at H
        by_cases c7 : x22_1 < (t422.length : Int)
        · rw [if_pos c7] at H
          have c7b0 : decide (x22_1 < (t422.length : Int)) = true := decide_eq_true c7
          clear c7
          by_cases c8 : 0 ≤ x22_1
          · rw [if_pos c8] at H
            have c8b0 : decide (0 ≤ x22_1) = true := decide_eq_true c8
            clear c8
            by_cases c9 : x22_1 < (t422.length : Int)
            · rw [if_pos c9] at H
              have c9b0 : decide (x22_1 < (t422.length : Int)) = true := decide_eq_true c9
              clear c9
              by_cases c10 : x8_1.length < 4398046511104
              · rw [if_pos c10] at H
                have LMc10 := Aside0.mk c10
                clear c10
                obtain ⟨y427, hy427⟩ : ∃ y_ : List (S39), y_ = (x8_1 ++ [(⟨2, rd t422 x22_1, (⟨#[]⟩ : ByteArray)⟩ : S39)]) := ⟨_, rfl⟩
                replace H : (column_getNumbers.l0 k1 y427 t422 (t422.length : Int) (wrap64 (x22_1 + 1))) = some (r1, r2) := by first | (rw [hy427]; with_reducible exact H) | (have H2_ := (Option.bind_some _ _).symm.trans H; rw [hy427]; with_reducible exact H2_) | (have H2_ := (Option.bind_some _ _).symm.trans H; with_reducible exact H2_) | with_reducible exact H | (rw [hy427]; exact H) | exact H
                have Ny427 := Aside0.mk hy427
                clear hy427
                have H' := Aside0.mk H
                clear H
                have p426 : 0 ≤ (x22_1 : Int) := of_decide_eq_true (by first | (with_reducible assumption) | assumption)
                have q426 : x22_1 < (t422.length : Int) := of_decide_eq_true (by first | (with_reducible assumption) | assumption)
                obtain ⟨ad426, e426, hx426_0⟩ := Kd.at_int (Kd.R_reads' HO_20.out).2.2 x22_1 p426 q426
                cases e426
                replace p426 := eq_true p426
                replace q426 := eq_true q426
                go_wp2_with (first | ((with_reducible refine gate_builtin (b := .append) (xs := #[.tmp 26, .tmp 29]) rfl ?_); at_builtin; refine Kd.R_append k39 (w0 := w) w.heap.size rfl (.tmp 26) (.tmp 29) 23 39 (.agg #[(.int .u8 0), (.int .i64 0), (.string ⟨#[]⟩)]) 32 rfl Try.underlying23 info39 rfl (by decide) (by omega) u8 x8_1 (⟨2, rd t422 x22_1, (⟨#[]⟩ : ByteArray)⟩ : S39) [.int .u8 2, .int .i64 (rd t422 x22_1), .string (⟨#[]⟩ : ByteArray)] (fun _ => True) (fun _ => False) rfl rfl ?aP (fun _ hk => hk.elim) ?aF ?aO ?aB ?aS ?aL ?_; (case aP => exact k39_mkM _ _ _ (⟨2, rd t422 x22_1, (⟨#[]⟩ : ByteArray)⟩ : S39)); (case aB => exact (by repeat (first | (with_reducible first | exact HB.out | apply below_alloc | apply pw_below_drewN | apply below_drew1) | exact HB.out))); (case aF => exact (fun _ _ => trivial)); (case aO => exact (by (with_reducible repeat (first | apply Kd.R_alloc | apply Kd.R_drewN | apply Kd.R_drew)); exact HO_8.out)); (case aS => exact (below_size (by repeat (first | (with_reducible first | exact HB.out | apply below_alloc | apply pw_below_drewN | apply below_drew1) | exact HB.out)))); (case aL => have := LMc10.out; omega); intro v428 w11 ho hb hg hat; rw [← Ny427.out] at ho; have n0_ := Aside0.mk (Kd.R_over' (by (with_reducible repeat (first | apply Kd.R_alloc | apply Kd.R_drewN | apply Kd.R_drew)); exact HO_20.out) (Kd.R_typed (by (with_reducible repeat (first | apply Kd.R_alloc | apply Kd.R_drewN | apply Kd.R_drew)); exact HO_8.out)) (by decide) hg); have n1_ := Aside0.mk (hb); have n2_ := Aside0.mk (ho); clear HO_20; clear HB; clear HO_8; have HO_20 := n0_; have HB := n1_; have HO429 := n2_; clear n0_ n1_ n2_; clear ho hb hg hat))
                go_roundg k1
                case measure => have := HK1.out; omega
                case rel => exact ⟨(y427), (wrap64 (x22_1 + 1)), (by first | rfl | (simp; done) | (simp [*]; done)), H', ⟨by have := HK1.out; omega⟩, ⟨by (with_reducible repeat (first | apply Kd.R_alloc | apply Kd.R_drewN | apply Kd.R_drew)); exact HO429.out⟩, ⟨by (with_reducible repeat (first | apply Kd.R_alloc | apply Kd.R_drewN | apply Kd.R_drew)); exact HO_20.out⟩, ⟨by repeat (first | (with_reducible first | exact HB.out | apply below_alloc | apply pw_below_drewN | apply below_drew1) | exact HB.out)⟩⟩
              · rw [if_neg c10] at H
                exact absurd H (by simp)
            · rw [if_neg c9] at H
              exact absurd H (by simp)
          · rw [if_neg c8] at H
            exact absurd H (by simp)
        · rw [if_neg c7] at H
          have c7b0 : decide (x22_1 < (t422.length : Int)) = false := decide_eq_false c7
          clear c7
          simp only [Option.some.injEq, Prod.mk.injEq] at H
          obtain ⟨rfl, rfl⟩ := H
          go_wp2
          go_ret2
          exact ⟨_, by first | rfl | (simp [errW_none, errW_some] <;> rfl) | (simp [*, errW_none, errW_some] <;> rfl), by (with_reducible repeat (first | apply Kd.R_alloc | apply Kd.R_drewN | apply Kd.R_drew)); exact HO_8.out, by repeat (first | (with_reducible first | exact HB.out | apply below_alloc | apply pw_below_drewN | apply below_drew1) | exact HB.out)⟩
  · rw [if_neg c4] at H
    have c4b0 : (t425 == 0) = false := beq_eq_false_iff_ne.mpr c4
    have c4b1 : (t425 != 0) = true := bne_iff_ne.mpr c4
    simp only [Option.some.injEq, Prod.mk.injEq] at H
    obtain ⟨rfl, rfl⟩ := H
    go_enter Try.func136, Try.ntmps136
    go_wp2_with (first | ((with_reducible refine gate_callee (f := 152) rfl ?_); refine goesL_ (some 14) rfl rfl Try.func152 (by kernel_rfl) rfl #[.slice A0 l0.length c0, .int .i64 a1] rfl (by (try simp only [List.map_toArray, List.map_cons, List.map_nil]); first | done | rfl | (simp only [List.length_drop, List.length_take]; rfl)) ?_; (with_reducible refine (ints_Get.calls k (fun k_ => k_ < w.heap.size) _ _ l0 a1 t422 t425 _ ?side1 A3.out).mono ?_); (case side1 => exact Kd.V_mk HC0.out (Kd.F_below (Kd.C_F (Kd.heap_int .u8) HR0.out) (by repeat (first | (with_reducible first | exact HB.out | apply below_alloc | apply pw_below_drewN | apply below_drew1) | exact HB.out)))); rintro e w12 ⟨v423, rfl, ho0, hb⟩; refine ⟨_, rfl, ?_⟩; have n0_ := Aside0.mk (Kd.R_lower (Kd.R_mono (ok' := fun k_ => True) ho0 (fun _ hk_ => trivial)) (below_size (by repeat (first | (with_reducible first | exact HB.out | apply below_alloc | apply pw_below_drewN | apply below_drew1) | exact HB.out)))); have n1_ := Aside0.mk (below_step (by repeat (first | (with_reducible first | exact HB.out | apply below_alloc | apply pw_below_drewN | apply below_drew1) | exact HB.out)) hb); clear HB; have HO424 := n0_; have HB := n1_; clear n0_ n1_; (try clear hb); (try clear hb2); (try clear hk); (try clear hi); (try clear ho0)))
    go_ret2
    exact ⟨_, by first | rfl | (simp [errW_none, errW_some] <;> rfl) | (simp [*, errW_none, errW_some] <;> rfl), by first | exact Kd.R_nil _ _ _ _ _ | exact Kd.N_nil _ _ _ _ _ | exact Kd.V_nil _ _ _ _ _ | exact Kd.Q_nil _ _ _ _ _ | exact Kd.S_nil _ _ _ _ _, by repeat (first | (with_reducible first | exact HB.out | apply below_alloc | apply pw_below_drewN | apply below_drew1) | exact HB.out)⟩

end Go.Proofs.Ytlmcefhpnfoahaa.P
end

section
namespace Go.Proofs.Ytlmcefhpnfoahaa.P
open Go.RowKit Go.Proofs.YtlmcefhpnfoahaaW.PrintWords Go.Proofs.YtlmcefhpnfoahaaW.PrintLast Go.Proofs.YtlmcefhpnfoahaaW.PrintMore
attribute [local go_sem] max2_int min2_int max_two min_two max_three min_three max_four min_four   -- for this text's walks alone
set_option linter.unusedVariables false
set_option linter.unusedSimpArgs false

end Go.Proofs.Ytlmcefhpnfoahaa.P
end

section
namespace Go.Proofs.Ytlmcefhpnfoahaa.P
open Go.RowKit Go.Proofs.YtlmcefhpnfoahaaW.PrintWords Go.Proofs.YtlmcefhpnfoahaaW.PrintLast Go.Proofs.YtlmcefhpnfoahaaW.PrintMore
attribute [local go_sem] max2_int min2_int max_two min_two max_three min_three max_four min_four   -- for this text's walks alone
set_option linter.unusedVariables false
set_option linter.unusedSimpArgs false

end Go.Proofs.Ytlmcefhpnfoahaa.P
end

section
namespace Go.Proofs.Ytlmcefhpnfoahaa.P
open Go.RowKit Go.Proofs.YtlmcefhpnfoahaaW.PrintWords Go.Proofs.YtlmcefhpnfoahaaW.PrintLast Go.Proofs.YtlmcefhpnfoahaaW.PrintMore
attribute [local go_sem] max2_int min2_int max_two min_two max_three min_three max_four min_four   -- for this text's walks alone
set_option linter.unusedVariables false
set_option linter.unusedSimpArgs false

end Go.Proofs.Ytlmcefhpnfoahaa.P
end

section
namespace Go.Proofs.Ytlmcefhpnfoahaa.P
open Go.RowKit Go.Proofs.YtlmcefhpnfoahaaW.PrintWords Go.Proofs.YtlmcefhpnfoahaaW.PrintLast Go.Proofs.YtlmcefhpnfoahaaW.PrintMore
attribute [local go_sem] max2_int min2_int max_two min_two max_three min_three max_four min_four   -- for this text's walks alone
set_option linter.unusedVariables false
set_option linter.unusedSimpArgs false

end Go.Proofs.Ytlmcefhpnfoahaa.P
end

section
namespace Go.Proofs.Ytlmcefhpnfoahaa.P
open Go.RowKit Go.Proofs.YtlmcefhpnfoahaaW.PrintWords Go.Proofs.YtlmcefhpnfoahaaW.PrintLast Go.Proofs.YtlmcefhpnfoahaaW.PrintMore
set_option linter.unusedVariables false
set_option linter.unusedSimpArgs false

theorem uw (m : Int) : IntKind.u64.wrap m = m % 18446744073709551616 := rfl
/-- What the first i bytes, all of which go on, and the rest tell. -/
def joinV (i : Nat) (x : Int) (p : Int × Int × Int) : Int × Int × Int := if p.2.2 = 0 then (x + 128 ^ i * p.1, (i : Int) + p.2.1, 0) else (0, 0, p.2.2)
theorem joinV_zero (p : Int × Int × Int) (h : p.2.2 ≠ 0 → p = (0, 0, p.2.2)) : joinV 0 0 p = p := by
  unfold joinV
  split
  · rename_i h0
    obtain ⟨a, b, c⟩ := p
    simp at h0
    subst h0
    simp
  · rename_i h0
    exact (h h0).symm
theorem vg_err' (k : Nat) (l : List Int) (h : (vg k l).2.2 ≠ 0) : vg k l = (0, 0, (vg k l).2.2) := by
  rcases vg_err k l h with e | e <;> rw [e]
theorem vg0_one (c : Int) (r : List Int) (h : c = 1) : vg 0 (c :: r) = (1, 1, 0) := by unfold vg; rw [if_pos h]
theorem vg0_bad (c : Int) (r : List Int) (h : ¬ c = 1) : vg 0 (c :: r) = (0, 0, 21) := by unfold vg; rw [if_neg h]
theorem joinV_step (i k : Nat) (x c : Int) (r : List Int) (hc : ¬ c < 128) : joinV i x (vg (k + 1) (c :: r)) = joinV (i + 1) (x + c % 128 * 128 ^ i) (vg k r) := by
  unfold joinV
  conv => lhs; unfold vg
  rw [if_neg hc]
  by_cases h : (vg k r).2.2 = 0
  · simp only [h, if_true]
    rw [Int.pow_succ]
    congr 1
    · have e : (128 : Int) ^ i * (c % 128 + 128 * (vg k r).1) = c % 128 * 128 ^ i + 128 ^ i * 128 * (vg k r).1 := by
        rw [Int.mul_add, Int.mul_comm (128 ^ i) (c % 128), Int.mul_assoc]
      rw [e, Int.add_assoc]
    · congr 1; omega
  · simp only [h, if_false]
theorem and127 (c : Int) (h0 : 0 ≤ c) (h1 : c ≤ 255) : Go.bits .and .u8 c 127 = c % 128 := by
  have h : ∀ c : Nat, c < 256 → Go.bits .and .u8 (c : Int) 127 = (c : Int) % 128 := by decide +kernel
  have h2 := h c.toNat (by omega)
  rw [Int.toNat_of_nonneg h0] at h2
  exact h2
theorem pow128_two (i : Nat) : (128 : Int) ^ i = 2 ^ (7 * i) := by
  rw [show (128 : Int) = 2 ^ 7 from rfl, ← Int.pow_mul]
theorem pow128_le (i : Nat) (h : i ≤ 8) : (128 : Int) ^ (i + 1) ≤ 9223372036854775808 := by
  have : i = 0 ∨ i = 1 ∨ i = 2 ∨ i = 3 ∨ i = 4 ∨ i = 5 ∨ i = 6 ∨ i = 7 ∨ i = 8 := by omega
  rcases this with rfl | rfl | rfl | rfl | rfl | rfl | rfl | rfl | rfl <;> decide
/-- One byte more on top. -/
theorem or_at (i : Nat) (x v : Int) (h0 : 0 ≤ x) (h1 : x < 128 ^ i) (v0 : 0 ≤ v) (hv : v * 128 ^ i + x < 18446744073709551616) (hi : i ≤ 9) : Go.bits .or .u64 x (shl .u64 (IntKind.u64.wrap v) (wrap64 (7 * (i : Int)))) = x + v * 128 ^ i := by
  have hp := pow128 i
  have hv2 : v ≤ v * 128 ^ i := by
    have := Int.mul_le_mul_of_nonneg_left (show (1 : Int) ≤ 128 ^ i by omega) v0
    omega
  have e1 : wrap64 (7 * (i : Int)) = ((7 * i : Nat) : Int) := by unfold wrap64; omega
  have e2 : shl .u64 (IntKind.u64.wrap v) (wrap64 (7 * (i : Int))) = v * 128 ^ i := by
    unfold shl
    rw [e1, Int.toNat_natCast, show IntKind.u64.bits = 64 from rfl, Nat.min_eq_left (by omega), ← pow128_two, uw, uw, Int.emod_eq_of_lt v0 (by omega)]
    have hm : 0 ≤ v * 128 ^ i := Int.mul_nonneg v0 (by omega)
    rw [Int.emod_eq_of_lt hm (by omega)]
  have hm : 0 ≤ v * 128 ^ i := Int.mul_nonneg v0 (by omega)
  rw [e2, u64_or x _ h0 (by omega) hm (by omega)]
  have e3 : x.toNat ||| (v * 128 ^ i).toNat = x.toNat + (v * 128 ^ i).toNat := by
    have e4 : (v * 128 ^ i).toNat = 2 ^ (7 * i) * v.toNat := by
      rw [pow128_two, Int.toNat_mul v0 (by rw [← pow128_two]; omega), Nat.mul_comm]
      rw [show ((2 : Int) ^ (7 * i)) = ((2 ^ (7 * i) : Nat) : Int) by simp, Int.toNat_natCast]
    have e5 : x.toNat < 2 ^ (7 * i) := by
      have : ((2 ^ (7 * i) : Nat) : Int) = 128 ^ i := by rw [pow128_two]; simp
      omega
    rw [e4, Nat.or_comm, Nat.add_comm]
    exact (Nat.two_pow_add_eq_or_of_lt e5 v.toNat).symm
  rw [e3]
  omega
theorem get_l0 (l : List Int) (hl : l.length ≤ 1000000) (hb : ∀ x ∈ l, isByte x = true) : ∀ (d k i : Nat) (x : Int), i + d = 9 → 2 * d + 3 ≤ k → i ≤ l.length → 0 ≤ x → x < 128 ^ i → varint_Get.l0 k l x i = some (joinV i x (vg d (l.drop i))) := by
  intro d
  induction d with
  | zero =>
    intro k i x hi hk hil h0 h1
    obtain rfl : i = 9 := by omega
    obtain ⟨k, rfl⟩ : ∃ j, k = j + 1 + 1 := ⟨k - 2, by omega⟩
    unfold varint_Get.l0
    (try dsimp only)
    rw [if_pos (by decide)]
    by_cases he : l.length = 9
    · rw [if_pos (by omega), List.drop_of_length_le (by omega)]
      rfl
    · rw [if_neg (by omega), if_pos (by decide), if_pos (by omega), if_pos (by decide)]
      have hlt : 9 < l.length := by omega
      have er : rd l ((9 : Nat) : Int) = l[9] := by simp [rd, List.getD_eq_getElem?_getD, List.getElem?_eq_getElem hlt]
      have er' : rd l 9 = l[9] := er
      rw [List.drop_eq_getElem_cons hlt, er]
      have hc := rd_isByte hb 9 hlt
      rw [er] at hc
      unfold varint_Get.j1
      (try dsimp only)
      by_cases h2 : l[9] > 1
      · rw [if_pos (by simpa using h2)]
        rw [vg0_bad _ _ (by omega)]
        rfl
      · rw [if_neg (by simpa using h2), if_pos (by unfold wrap64; omega), if_pos (by omega)]
        by_cases h3 : l[9] = 0
        · rw [if_pos h3, if_pos (by decide)]
          rw [vg0_bad _ _ (by omega)]
          rfl
        · have h4 : l[9] = 1 := by omega
          rw [if_neg h3, and127 _ hc.1 hc.2, h4]
          have e := or_at 9 x 1 h0 h1 (by decide) (by
            have e9 : (128 : Int) ^ 9 = 9223372036854775808 := by decide
            omega) (by decide)
          rw [show (1 : Int) % 128 = 1 from rfl, e, vg0_one _ _ rfl, show wrap64 (((9 : Nat) : Int) + 1) = ((9 : Nat) : Int) + 1 by unfold wrap64; omega, Int.mul_comm]
          rfl
  | succ d ih =>
    intro k i x hi hk hil h0 h1
    obtain ⟨k, rfl⟩ : ∃ j, k = j + 1 + 1 := ⟨k - 2, by omega⟩
    unfold varint_Get.l0
    (try dsimp only)
    rw [if_pos (by omega)]
    by_cases he : l.length = i
    · rw [if_pos (by omega), List.drop_of_length_le (by omega)]
      rfl
    · have hlt : i < l.length := by omega
      rw [if_neg (by omega), if_pos (by omega), if_pos (by omega), if_neg (by omega)]
      have er : rd l (i : Int) = l[i] := by simp [rd, List.getD_eq_getElem?_getD, List.getElem?_eq_getElem hlt]
      have hc := rd_isByte hb i hlt
      rw [List.drop_eq_getElem_cons hlt, er]
      rw [er] at hc
      have ew : wrap64 (7 * (i : Int)) = 7 * (i : Int) := by unfold wrap64; omega
      have ew2 : wrap64 ((i : Int) + 1) = ((i + 1 : Nat) : Int) := w64s i (by omega)
      have hp := pow128 i
      have hple := pow128_le i (by omega)
      have hcm : l[i] % 128 * 128 ^ i ≤ 127 * 128 ^ i := Int.mul_le_mul_of_nonneg_right (by omega) (by omega)
      have hcm0 : 0 ≤ l[i] % 128 * 128 ^ i := Int.mul_nonneg (by omega) (by omega)
      rw [Int.pow_succ] at hple
      have eo := or_at i x (l[i] % 128) h0 h1 (by omega) (by omega) (by omega)
      unfold varint_Get.j1
      (try dsimp only)
      rw [if_neg (by decide), if_pos (by rw [ew]; omega), and127 _ hc.1 hc.2, eo, ew2]
      by_cases h7 : l[i] < 128
      · rw [if_pos h7]
        have em : l[i] % 128 = l[i] := by omega
        have hfin : (l[i] ≠ 0 ∨ i = 0) → joinV i x (vg (d + 1) (l[i] :: l.drop (i + 1))) = (x + l[i] % 128 * 128 ^ i, ((i + 1 : Nat) : Int), 0) := by
          intro hz
          have ev : vg (d + 1) (l[i] :: l.drop (i + 1)) = (l[i], 1, 0) := by
            unfold vg
            rw [if_pos h7, if_neg (by omega)]
          unfold joinV
          rw [ev, em, Int.mul_comm]
          rfl
        by_cases hz : l[i] = 0
        · rw [if_pos hz]
          by_cases hi0 : (i : Int) > 0
          · rw [if_pos hi0]
            have ev : vg (d + 1) (l[i] :: l.drop (i + 1)) = (0, 0, 21) := by
              unfold vg
              rw [if_pos h7, if_pos ⟨hz, by omega⟩]
            unfold joinV
            rw [ev]
            rfl
          · rw [if_neg hi0, hfin (Or.inr (by omega))]
        · rw [if_neg hz, hfin (Or.inl hz)]
      · rw [if_neg h7, joinV_step i d x _ _ h7]
        exact ih k (i + 1) _ (by omega) (by omega) (by omega) (by omega) (by rw [Int.pow_succ]; omega)
theorem get_f (l : List Int) (hl : l.length ≤ 1000000) (hb : ∀ x ∈ l, isByte x = true) : varint_Get.f 21 l = some (vget l) := by
  have := get_l0 l hl hb 9 21 0 0 rfl (by decide) (Nat.zero_le _) (by decide) (by decide)
  unfold varint_Get.f vget
  rw [List.drop_zero, joinV_zero _ (vg_err' 9 l)] at this
  exact this
theorem vget_range (l : List Int) (hb : ∀ x ∈ l, isByte x = true) : 0 ≤ (vget l).1 ∧ (vget l).1 ≤ 18446744073709551615 ∧ 0 ≤ (vget l).2.1 ∧ (vget l).2.1 ≤ l.length := by
  by_cases h : (vget l).2.2 = 0
  · obtain ⟨r, g1, g2, g3, g4⟩ := vput_vget l hb h
    have hl : l.length = (vput 9 (vget l).1).length + r.length := by rw [← List.length_append, ← g1]
    omega
  · have e := vg_err' 9 l h
    have e' : vget l = (0, 0, (vget l).2.2) := e
    rw [e']
    simp
theorem xor_zero_i64 (x : Int) (h0 : 0 ≤ x) (h1 : x ≤ 9223372036854775807) : Go.bits .xor .i64 x 0 = x := by
  unfold Go.bits
  have e1 : BitVec.ofInt IntKind.i64.bits 0 = 0#IntKind.i64.bits := by rfl
  have e2 : (BitVec.ofInt IntKind.i64.bits x).toNat = x.toNat := by
    rw [BitVec.toNat_ofInt]
    show (x % 18446744073709551616).toNat = _
    rw [Int.emod_eq_of_lt h0 (by omega)]
  dsimp only
  rw [e1, BitVec.xor_zero, e2]
  rw [i64_w, Int.toNat_of_nonneg h0]
  unfold wrap64
  omega
theorem xor_ones_i64 (x : Int) (h0 : 0 ≤ x) (h1 : x ≤ 9223372036854775807) : Go.bits .xor .i64 x (-1) = -x - 1 := by
  unfold Go.bits
  have e1 : BitVec.ofInt IntKind.i64.bits (-1) = BitVec.allOnes IntKind.i64.bits := by rfl
  have e2 : (BitVec.ofInt IntKind.i64.bits x).toNat = x.toNat := by
    rw [BitVec.toNat_ofInt]
    show (x % 18446744073709551616).toNat = _
    rw [Int.emod_eq_of_lt h0 (by omega)]
  dsimp only
  rw [e1, BitVec.xor_allOnes, BitVec.toNat_not, e2]
  rw [i64_w, show (2 ^ IntKind.i64.bits - 1 - x.toNat : Nat) = 18446744073709551615 - x.toNat from rfl]
  unfold wrap64
  omega
theorem zag_f (u : Int) (h0 : 0 ≤ u) (h1 : u ≤ 18446744073709551615) : varint_Zag.f u = some (zag u) := by
  unfold varint_Zag.f
  have ha : Go.bits .and .u64 u 1 = u % 2 := by
    rw [u64_and u 1 h0 (by omega) (by decide) (by decide)]
    have : u.toNat &&& (1 : Int).toNat = u.toNat % 2 := Nat.and_one_is_mod _
    rw [this]
    omega
  rw [ha]
  congr 1
  unfold zag
  by_cases h2 : u % 2 = 0
  · rw [if_pos h2, h2]
    have e1 : wrap64 (u / 2) = u / 2 := by unfold wrap64; omega
    rw [e1, show wrap64 (-(wrap64 0)) = 0 by unfold wrap64; omega, xor_zero_i64 _ (by omega) (by omega)]
  · have h3 : u % 2 = 1 := by omega
    rw [if_neg h2, h3]
    have e1 : wrap64 (u / 2) = u / 2 := by unfold wrap64; omega
    rw [e1, show wrap64 (-(wrap64 1)) = -1 by unfold wrap64; omega, xor_ones_i64 _ (by omega) (by omega)]
end Go.Proofs.Ytlmcefhpnfoahaa.P
end

section
namespace Go.Proofs.Ytlmcefhpnfoahaa.P
open Go.RowKit Go.Proofs.YtlmcefhpnfoahaaW.PrintWords Go.Proofs.YtlmcefhpnfoahaaW.PrintLast Go.Proofs.YtlmcefhpnfoahaaW.PrintMore
set_option linter.unusedVariables false
set_option linter.unusedSimpArgs false

theorem get_k (k : Nat) (hk : 21 ≤ k) (l : List Int) (hl : l.length ≤ 1000000) (hb : ∀ x ∈ l, isByte x = true) : varint_Get.f k l = some (vget l) :=
  leO_le (g := fun k => varint_Get.f k l) (fun k => varint_Get.mono _ _) hk (get_f l hl hb)
/-- d numbers more at one change. -/
def itr : Nat → Int → Int → Int → List Int × Int × Int
  | 0, last, step, _ => ([], last, step)
  | d + 1, last, step, c => (wrap64 (last + wrap64 (step + c)) :: (itr d (wrap64 (last + wrap64 (step + c))) (wrap64 (step + c)) c).1, (itr d (wrap64 (last + wrap64 (step + c))) (wrap64 (step + c)) c).2)
theorem itr_len : ∀ (d : Nat) (last step c : Int), (itr d last step c).1.length = d := by
  intro d
  induction d with
  | zero => intro _ _ _; rfl
  | succ d ih => intro last step c; unfold itr; simp [ih]
theorem sums_itr (c : Int) (q : List Int) : ∀ (d : Nat) (last step : Int), sums last step (List.replicate d c ++ q) = (itr d last step c).1 ++ sums (itr d last step c).2.1 (itr d last step c).2.2 q := by
  intro d
  induction d with
  | zero => intro _ _; rfl
  | succ d ih =>
    intro last step
    rw [List.replicate_succ, List.cons_append]
    have e1 : ∀ r, sums last step (c :: r) = wrap64 (last + wrap64 (step + c)) :: sums (wrap64 (last + wrap64 (step + c))) (wrap64 (step + c)) r := fun _ => rfl
    have e2 : itr (d + 1) last step c = (wrap64 (last + wrap64 (step + c)) :: (itr d (wrap64 (last + wrap64 (step + c))) (wrap64 (step + c)) c).1, (itr d (wrap64 (last + wrap64 (step + c))) (wrap64 (step + c)) c).2) := rfl
    rw [e1, e2, ih]
    rfl
theorem intsGet_l1 (b : List Int) (n c : Int) (m : Nat) (hm : m ≤ 1000000) : ∀ (d k : Nat) (X : List Int) (last step : Int), d ≤ m → X.length + d ≤ 2000000 →
    ints_Get.l1 (k + d + 1) b n X last step c (m : Int) ((m - d : Nat) : Int) = ints_Get.l0 k b n (X ++ (itr d last step c).1) (itr d last step c).2.1 (itr d last step c).2.2 c := by
  intro d
  induction d with
  | zero =>
    intro k X last step hd hX
    rw [ints_Get.l1, if_neg (by omega)]
    simp [itr]
  | succ d ih =>
    intro k X last step hd hX
    rw [ints_Get.l1, if_pos (by omega), if_pos (by omega)]
    have e : IntKind.u64.wrap (((m - (d + 1) : Nat) : Int) + 1) = ((m - d : Nat) : Int) := by
      show (((m - (d + 1) : Nat) : Int) + 1) % 18446744073709551616 = _
      omega
    rw [e, show k + (d + 1) = k + d + 1 by omega, ih k _ _ _ (by omega) (by simp; omega)]
    simp [itr]
theorem intsGet_l0 (n : Nat) (hn : n ≤ 65536) : ∀ (f need k : Nat) (b X : List Int) (last step change : Int), need ≤ f → X.length + need = n → 4 * need + 30 ≤ k → b.length ≤ 1000000 → (∀ x ∈ b, isByte x = true) →
    ints_Get.l0 k b (n : Int) X last step change = some (if (getRuns f need (if X = [] then none else some change) b).2 = 0 then (X ++ sums last step (getRuns f need (if X = [] then none else some change) b).1, 0) else ([], (getRuns f need (if X = [] then none else some change) b).2)) := by
  intro f
  induction f with
  | zero =>
    intro need k b X last step change hf hX hk hl hb
    obtain rfl : need = 0 := by omega
    obtain ⟨k, rfl⟩ : ∃ j, k = j + 1 := ⟨k - 1, by omega⟩
    rw [ints_Get.l0, if_neg (by omega)]
    unfold getRuns
    rw [if_pos rfl]
    by_cases h : 0 < b.length
    · rw [if_pos (by omega), if_pos h]; rfl
    · rw [if_neg (by omega), if_neg h]; simp [sums]
  | succ f ih =>
    intro need k b X last step change hf hX hk hl hb
    obtain ⟨k, rfl⟩ : ∃ j, k = j + 1 := ⟨k - 1, by omega⟩
    obtain ⟨prev, hprev⟩ : ∃ p, p = (if X = [] then none else some change) := ⟨_, rfl⟩
    rw [← hprev, ints_Get.l0]
    unfold getRuns
    by_cases h0 : need = 0
    · subst h0
      rw [if_neg (by omega), if_pos rfl]
      by_cases h : 0 < b.length
      · rw [if_pos (by omega), if_pos h]; rfl
      · rw [if_neg (by omega), if_neg h]; simp [sums]
    rw [if_pos (by omega), if_neg h0]
    by_cases h1 : b.length = 0
    · rw [if_pos (by omega), if_pos h1]; rfl
    rw [if_neg (by omega), if_neg h1, get_k k (by omega) b hl hb, Option.bind_some]
    have hr := vget_range b hb
    obtain ⟨u, hu⟩ : ∃ u, u = vget b := ⟨_, rfl⟩
    rw [← hu] at hr ⊢
    by_cases h2 : u.2.2 = 0
    · rw [if_pos h2, if_neg (show ¬ (u.2.2 ≠ 0) from by simpa using h2)]
      by_cases h3 : u.1 = 0
      · rw [if_pos h3, if_pos (Or.inl h3)]; rfl
      rw [if_neg h3]
      have hw : IntKind.u64.wrap (wrap64 ((n : Int) - (X.length : Int))) = (need : Int) := by
        show wrap64 ((n : Int) - (X.length : Int)) % 18446744073709551616 = _
        rw [w64 (by omega) (by omega)]
        omega
      rw [hw]
      by_cases h4 : u.1 > need
      · rw [if_pos h4, if_pos (Or.inr h4)]; rfl
      rw [if_neg h4, if_pos hr.2.2.1, if_pos hr.2.2.2, if_neg (show ¬ (u.1 = 0 ∨ u.1 > (need : Int)) from by omega)]
      obtain ⟨b1, hb1⟩ : ∃ b1, b1 = b.drop u.2.1.toNat := ⟨_, rfl⟩
      have hb1y : ∀ x ∈ b1, isByte x = true := fun x hx => hb x (by rw [hb1] at hx; exact List.mem_of_mem_drop hx)
      have hb1l : b1.length ≤ b.length := by rw [hb1, List.length_drop]; omega
      have hb1e : b1.length = b.length - u.2.1.toNat := by rw [hb1, List.length_drop]
      rw [← hb1, get_k k (by omega) b1 (by omega) hb1y, Option.bind_some]
      have hr2 := vget_range b1 hb1y
      obtain ⟨v, hv⟩ : ∃ v, v = vget b1 := ⟨_, rfl⟩
      rw [← hv] at hr2 ⊢
      by_cases h5 : v.2.2 = 0
      · rw [if_pos h5, if_neg (show ¬ (v.2.2 ≠ 0) from by simpa using h5)]
        obtain ⟨m, hm⟩ : ∃ m, m = u.1.toNat := ⟨_, rfl⟩
        have hum : u.1 = (m : Int) := by omega
        have hgo : ints_Get.j2 k b (n : Int) X last step u.1 u.2.1 v.1 v.2.1 = some (if (getRuns f (need - m) (some (zag v.1)) (b.drop (u.2.1 + v.2.1).toNat)).2 = 0 then (X ++ sums last step (List.replicate m (zag v.1) ++ (getRuns f (need - m) (some (zag v.1)) (b.drop (u.2.1 + v.2.1).toNat)).1), 0) else ([], (getRuns f (need - m) (some (zag v.1)) (b.drop (u.2.1 + v.2.1).toNat)).2)) := by
          obtain ⟨k, rfl⟩ : ∃ j, k = j + 1 := ⟨k - 1, by omega⟩
          have hw2 : wrap64 (u.2.1 + v.2.1) = u.2.1 + v.2.1 := w64 (by omega) (by omega)
          rw [ints_Get.j2, hw2, if_pos (by omega), if_pos (by omega), zag_f v.1 hr2.1 hr2.2.1, Option.bind_some, hum]
          obtain ⟨k, rfl⟩ : ∃ j, k = j + m + 1 := ⟨k - m - 1, by omega⟩
          have hl1 := intsGet_l1 (b.drop (u.2.1 + v.2.1).toNat) (n : Int) (zag v.1) m (by omega) m k X last step (Nat.le_refl m) (by omega)
          rw [Nat.sub_self] at hl1
          have hXl := itr_len m last step (zag v.1)
          have hne : X ++ (itr m last step (zag v.1)).1 ≠ [] := by
            intro e
            have := congrArg List.length e
            simp [hXl] at this
            omega
          rw [show ((0 : Nat) : Int) = 0 from rfl] at hl1
          rw [hl1, ih (need - m) k _ _ _ _ _ (by omega) (by rw [List.length_append, hXl]; omega) (by omega) (by rw [List.length_drop]; omega) (fun x hx => hb x (List.mem_of_mem_drop hx)), if_neg hne, sums_itr, List.append_assoc]
        rw [← hm]
        by_cases h6 : X = []
        · subst h6
          rw [if_pos rfl] at hprev
          subst hprev
          rw [if_neg (show ¬ ((([] : List Int).length : Int) > 0) from by simp), if_neg (show ¬ ((none : Option Int) = some (zag v.1)) from by simp), hgo]
          by_cases h7 : (getRuns f (need - m) (some (zag v.1)) (b.drop (u.2.1 + v.2.1).toNat)).2 = 0
          · rw [if_pos h7, if_pos h7, if_pos rfl]
          · rw [if_neg h7, if_neg h7, if_neg h7]
        · rw [if_neg h6] at hprev
          subst hprev
          have hX0 : 0 < X.length := List.length_pos_iff.mpr h6
          rw [if_pos (by omega), zag_f v.1 hr2.1 hr2.2.1, Option.bind_some]
          by_cases h8 : zag v.1 = change
          · rw [if_pos h8, if_pos (show (some change : Option Int) = some (zag v.1) from by rw [h8])]; rfl
          · rw [if_neg h8, if_neg (show ¬ ((some change : Option Int) = some (zag v.1)) from fun e => h8 (by injection e with e; exact e.symm)), hgo]
            by_cases h7 : (getRuns f (need - m) (some (zag v.1)) (b.drop (u.2.1 + v.2.1).toNat)).2 = 0
            · rw [if_pos h7, if_pos h7, if_pos rfl]
            · rw [if_neg h7, if_neg h7, if_neg h7]
      · rw [if_neg h5, if_pos (show v.2.2 ≠ 0 from h5)]
        dsimp only
        rw [if_neg h5]
    · rw [if_neg h2, if_pos (show u.2.2 ≠ 0 from h2)]
      dsimp only
      rw [if_neg h2]
theorem intsGet_f (b : List Int) (n : Nat) (hn : n ≤ 65536) (hl : b.length ≤ 1000000) (hb : ∀ x ∈ b, isByte x = true) (k : Nat) (hk : 4 * n + 31 ≤ k) : ints_Get.f k b (n : Int) = some (getInts b n) := by
  obtain ⟨k, rfl⟩ : ∃ j, k = j + 1 := ⟨k - 1, by omega⟩
  have h := intsGet_l0 n hn n n k b [] 0 0 0 (Nat.le_refl n) (by simp) (by omega) hl hb
  unfold ints_Get.f
  rw [if_neg (by omega), decide_eq_false (by omega), ints_Get.j0, if_neg (by decide), h]
  unfold getInts
  simp
theorem getNum_l0 (m : List Int) (hl : m.length ≤ 100000) : ∀ (d k i : Nat) (X : List S39), i + d = m.length → d < k → X.length = i → column_getNumbers.l0 k X m (m.length : Int) (i : Int) = some (X ++ (m.drop i).map fun v => ⟨2, v, ⟨#[]⟩⟩, 0) := by
  intro d
  induction d with
  | zero =>
    intro k i X hi hk hX
    obtain ⟨k, rfl⟩ : ∃ j, k = j + 1 := ⟨k - 1, by omega⟩
    rw [column_getNumbers.l0, if_neg (by omega), List.drop_of_length_le (by omega)]
    simp
  | succ d ih =>
    intro k i X hi hk hX
    obtain ⟨k, rfl⟩ : ∃ j, k = j + 1 := ⟨k - 1, by omega⟩
    have hlt : i < m.length := by omega
    rw [column_getNumbers.l0, if_pos (by omega), if_pos (by omega), if_pos (by omega), if_pos (by omega), w64s i (by omega), ih k (i + 1) _ (by omega) (by omega) (by simp [hX])]
    have e : (m.drop i).map (fun v => (⟨2, v, ⟨#[]⟩⟩ : S39)) = ⟨2, rd m (i : Int), ⟨#[]⟩⟩ :: (m.drop (i + 1)).map (fun v => (⟨2, v, ⟨#[]⟩⟩ : S39)) := by
      rw [List.drop_eq_getElem_cons hlt, List.map_cons]
      simp [rd, List.getD_eq_getElem?_getD, hlt]
    rw [e, List.append_assoc]
    rfl
theorem getRuns_len : ∀ (f need : Nat) (prev : Option Int) (b : List Int), need ≤ f → (∀ x ∈ b, isByte x = true) → (getRuns f need prev b).1.length ≤ need := by
  intro f
  induction f with
  | zero => intro need prev b h hb; unfold getRuns; repeat (first | (split; skip) | exact Nat.zero_le _)
  | succ f ih =>
    intro need prev b h hb
    have hvr := vget_range b hb
    unfold getRuns
    split
    · split <;> exact Nat.zero_le _
    · split
      · exact Nat.zero_le _
      · split
        · exact Nat.zero_le _
        · split
          · exact Nat.zero_le _
          · split
            · exact Nat.zero_le _
            · split
              · exact Nat.zero_le _
              · split
                · rename_i h0 h1 h2 h3 h4 h5 h6
                  have := ih (need - (vget b).1.toNat) (some (zag (vget (b.drop (vget b).2.1.toNat)).1)) (b.drop ((vget b).2.1 + (vget (b.drop (vget b).2.1.toNat)).2.1).toNat) (by omega) (fun x hx => hb x (List.mem_of_mem_drop hx))
                  simp only [List.length_append, List.length_replicate]
                  omega
                · exact Nat.zero_le _
theorem getInts_len (b : List Int) (n : Nat) (hb : ∀ x ∈ b, isByte x = true) : (getInts b n).1.length ≤ n := by
  have hs : ∀ (l : List Int) (last step : Int), (sums last step l).length = l.length := by
    intro l
    induction l with
    | nil => intro _ _; rfl
    | cons v r ih => intro _ _; simp [sums, ih]
  have := getRuns_len n n none b (Nat.le_refl n) hb
  unfold getInts
  split
  · rw [hs]; exact this
  · exact Nat.zero_le _
theorem getNum_f (b : List Int) (n : Nat) (hn : n ≤ 65536) (hl : b.length ≤ 1000000) (hb : ∀ x ∈ b, isByte x = true) (k : Nat) (hk : 4 * n + 31 ≤ k) : column_getNumbers.f k b (n : Int) = some ((getInts b n).1.map (fun v => ⟨2, v, ⟨#[]⟩⟩), (getInts b n).2) := by
  unfold column_getNumbers.f
  rw [intsGet_f b n hn hl hb k hk, Option.bind_some]
  have hlen := getInts_len b n hb
  by_cases h : (getInts b n).2 = 0
  · rw [if_pos h]
    have := getNum_l0 (getInts b n).1 (by omega) (getInts b n).1.length k 0 [] (by omega) (by omega) rfl
    simp only [List.nil_append, List.drop_zero] at this
    rw [h]
    exact this
  · rw [if_neg h]
    have e : (getInts b n).1 = [] := by
      unfold getInts at h ⊢
      split
      · rename_i h1; rw [if_pos h1] at h; exact absurd rfl h
      · rfl
    rw [e]; rfl
end Go.Proofs.Ytlmcefhpnfoahaa.P
end

section
namespace Go.Proofs.Ytlmcefhpnfoahaa.P
open Go.RowKit Go.Proofs.YtlmcefhpnfoahaaW.PrintWords Go.Proofs.YtlmcefhpnfoahaaW.PrintLast Go.Proofs.YtlmcefhpnfoahaaW.PrintMore
set_option linter.unusedVariables false
set_option linter.unusedSimpArgs false

theorem cnt_zero (nul : Nat → Bool) : cntF nul 0 = 0 := rfl
theorem cnt_succ (nul : Nat → Bool) (n : Nat) : cntF nul (n + 1) = cntF nul n + if nul n then 0 else 1 := by
  unfold cntF
  rw [List.range_succ, List.filter_append, List.length_append]
  cases h : nul n <;> simp [h]
theorem cnt_le (nul : Nat → Bool) : ∀ n, cntF nul n ≤ n := by
  intro n
  induction n with
  | zero => exact Nat.le_refl _
  | succ n ih => rw [cnt_succ]; split <;> omega
theorem cnt_mono (nul : Nat → Bool) (k : Nat) : ∀ n, k ≤ n → cntF nul k ≤ cntF nul n := by
  intro n
  induction n with
  | zero => intro h; obtain rfl : k = 0 := by omega
            exact Nat.le_refl _
  | succ n ih =>
    intro h
    by_cases e : k = n + 1
    · subst e; exact Nat.le_refl _
    · have := ih (by omega)
      rw [cnt_succ]; omega
theorem cnt_lt (nul : Nat → Bool) (k n : Nat) (h : k < n) (hk : nul k = false) : cntF nul k < cntF nul n := by
  have h1 := cnt_mono nul (k + 1) n h
  rw [cnt_succ, hk] at h1
  simp at h1
  omega
theorem merge_len (nul : Nat → Bool) : ∀ (n i : Nat) (m : List S39), (merge nul i n m).length = n := by
  intro n
  induction n with
  | zero => intro i m; rfl
  | succ n ih => intro i m; unfold merge; split <;> simp [ih]
theorem merge_get (nul : Nat → Bool) : ∀ (n i : Nat) (m : List S39) (j : Nat), j < n → (merge nul i n m).getD j z39 = if nul (i + j) then z39 else m.getD (cntF nul (i + j) - cntF nul i) z39 := by
  intro n
  induction n with
  | zero => intro i m j h; omega
  | succ n ih =>
    intro i m j h
    have hs := cnt_succ nul i
    cases j with
    | zero =>
      rw [show i + 0 = i from rfl, Nat.sub_self]
      unfold merge
      by_cases hn : nul i = true
      · rw [if_pos hn, if_pos hn]; rfl
      · rw [if_neg hn, if_neg hn]
        cases m <;> rfl
    | succ j =>
      have hm := cnt_mono nul (i + 1) (i + 1 + j) (by omega)
      unfold merge
      rw [show i + (j + 1) = i + 1 + j by omega]
      by_cases hn : nul i = true
      · rw [if_pos hn]
        rw [if_pos hn] at hs
        have := ih (i + 1) m j (by omega)
        rw [show (z39 :: merge nul (i + 1) n m).getD (j + 1) z39 = (merge nul (i + 1) n m).getD j z39 from rfl, this, hs]
        rfl
      · rw [if_neg hn]
        rw [if_neg hn] at hs
        have := ih (i + 1) m.tail j (by omega)
        rw [show (m.headD z39 :: merge nul (i + 1) n m.tail).getD (j + 1) z39 = (merge nul (i + 1) n m.tail).getD j z39 from rfl, this]
        by_cases hn2 : nul (i + 1 + j) = true
        · rw [if_pos hn2, if_pos hn2]
        · rw [if_neg hn2, if_neg hn2]
          have e : cntF nul (i + 1 + j) - cntF nul i = (cntF nul (i + 1 + j) - cntF nul (i + 1)) + 1 := by omega
          rw [e]
          cases m <;> rfl
/-- The first k of the merged values. -/
def outK (nul : Nat → Bool) (n : Nat) (m : List S39) (k : Nat) : List S39 := (List.range n).map fun i => if i < k then (merge nul 0 n m).getD i z39 else z39
theorem outK_length (nul : Nat → Bool) (n : Nat) (m : List S39) (k : Nat) : (outK nul n m k).length = n := by simp [outK]
theorem outK_zero (nul : Nat → Bool) (n : Nat) (m : List S39) : outK nul n m 0 = List.replicate n z39 := by
  unfold outK
  apply List.ext_getElem
  · simp
  · intro i h1 h2; simp
theorem outK_all (nul : Nat → Bool) (n : Nat) (m : List S39) : outK nul n m n = merge nul 0 n m := by
  unfold outK
  apply List.ext_getElem
  · simp [merge_len]
  · intro i h1 h2
    have hi : i < n := by simpa using h1
    simp [hi, List.getD_eq_getElem?_getD, h2]
theorem outK_val (nul : Nat → Bool) (n : Nat) (m : List S39) (k : Nat) (h : k < n) (hk : nul k = false) (x : S39) (hx : m.getD (cntF nul k) z39 = x) : (outK nul n m k).set k x = outK nul n m (k + 1) := by
  have hg := merge_get nul n 0 m k h
  rw [Nat.zero_add, hk, cnt_zero, Nat.sub_zero, hx] at hg
  simp only [Bool.false_eq_true, if_false] at hg
  unfold outK
  apply List.ext_getElem
  · simp
  · intro i h1 h2
    rw [List.getElem_set]
    by_cases e : k = i
    · subst e; rw [List.getD_eq_getElem?_getD] at hg; simp [hg]
    · have : (i < k + 1) ↔ (i < k) := by omega
      simp [e, this]
theorem outK_nul (nul : Nat → Bool) (n : Nat) (m : List S39) (k : Nat) (h : k < n) (hk : nul k = true) : outK nul n m (k + 1) = outK nul n m k := by
  have hg := merge_get nul n 0 m k h
  rw [Nat.zero_add, hk] at hg
  simp only [if_true] at hg
  unfold outK
  apply List.map_congr_left
  intro i hi
  by_cases e : k = i
  · subst e; rw [List.getD_eq_getElem?_getD] at hg; simp [hg]
  · have : (i < k + 1) ↔ (i < k) := by omega
    simp [this]
theorem runs_len_eq : ∀ (f need : Nat) (prev : Option Int) (b : List Int), need ≤ f → (∀ x ∈ b, isByte x = true) → (getRuns f need prev b).2 = 0 → (getRuns f need prev b).1.length = need := by
  intro f
  induction f with
  | zero =>
    intro need prev b h hb h0
    obtain rfl : need = 0 := by omega
    unfold getRuns
    rw [if_pos rfl]
    split <;> rfl
  | succ f ih =>
    intro need prev b h hb h0
    have hvr := vget_range b hb
    unfold getRuns at h0 ⊢
    by_cases c0 : need = 0
    · rw [if_pos c0]; subst c0; split <;> rfl
    rw [if_neg c0] at h0 ⊢
    by_cases c1 : b.length = 0
    · rw [if_pos c1] at h0; simp at h0
    rw [if_neg c1] at h0 ⊢
    by_cases c2 : (vget b).2.2 ≠ 0
    · rw [if_pos c2] at h0; exact absurd h0 c2
    rw [if_neg c2] at h0 ⊢
    by_cases c3 : (vget b).1 = 0 ∨ (vget b).1 > need
    · rw [if_pos c3] at h0; simp at h0
    rw [if_neg c3] at h0 ⊢
    by_cases c4 : (vget (b.drop (vget b).2.1.toNat)).2.2 ≠ 0
    · rw [if_pos c4] at h0; exact absurd h0 c4
    rw [if_neg c4] at h0 ⊢
    by_cases c5 : prev = some (zag (vget (b.drop (vget b).2.1.toNat)).1)
    · rw [if_pos c5] at h0; simp at h0
    rw [if_neg c5] at h0 ⊢
    by_cases c6 : (getRuns f (need - (vget b).1.toNat) (some (zag (vget (b.drop (vget b).2.1.toNat)).1)) (b.drop ((vget b).2.1 + (vget (b.drop (vget b).2.1.toNat)).2.1).toNat)).2 = 0
    · rw [if_pos c6]
      have := ih _ _ _ (by omega) (fun x hx => hb x (List.mem_of_mem_drop hx)) c6
      simp only [List.length_append, List.length_replicate, this]
      omega
    · rw [if_neg c6] at h0; exact absurd h0 c6
theorem which_len_eq (W : List ByteArray) : ∀ (n : Nat) (b : List Int), (getWhich W n b).2.2 = 0 → (getWhich W n b).1.length = n := by
  intro n
  induction n with
  | zero => intro b _; rfl
  | succ n ih =>
    intro b h
    unfold getWhich at h ⊢
    by_cases h1 : (vget b).2.2 ≠ 0
    · rw [if_pos h1] at h; exact absurd h h1
    rw [if_neg h1] at h ⊢
    by_cases h2 : (vget b).1 ≥ (W.length : Int)
    · rw [if_pos h2] at h; simp at h
    rw [if_neg h2] at h ⊢
    by_cases h3 : (getWhich W n (b.drop (vget b).2.1.toNat)).2.2 = 0
    · rw [if_pos h3] at h ⊢; simp [ih _ h3]
    · rw [if_neg h3] at h; exact absurd h h3
theorem marks_len_eq (kind : Int) (b : List Int) (n : Nat) (hb : ∀ x ∈ b, isByte x = true) (h : (getMarks kind b n).2 = 0) : (getMarks kind b n).1.length = n := by
  have hs : ∀ (l : List Int) (last step : Int), (sums last step l).length = l.length := by
    intro l
    induction l with
    | nil => intro _ _; rfl
    | cons v r ih => intro _ _; simp [sums, ih]
  unfold getMarks at h ⊢
  by_cases k1 : kind = 1
  · rw [if_pos k1] at h ⊢
    unfold getTruths at h ⊢
    by_cases c1 : b.length < (n + 7) / 8
    · rw [if_pos c1] at h; simp at h
    rw [if_neg c1] at h ⊢
    by_cases c2 : loose b n = true
    · rw [if_pos c2] at h; simp at h
    rw [if_neg c2] at h ⊢
    by_cases c3 : 0 < (b.drop ((n + 7) / 8)).length
    · rw [if_pos c3] at h; simp at h
    rw [if_neg c3]
    simp
  rw [if_neg k1] at h ⊢
  by_cases k2 : kind = 2
  · rw [if_pos k2] at h ⊢
    dsimp only at h ⊢
    rw [List.length_map]
    unfold getInts at h ⊢
    by_cases c1 : (getRuns n n none b).2 = 0
    · rw [if_pos c1]; dsimp only; rw [hs]; exact runs_len_eq n n none b (Nat.le_refl n) hb c1
    · rw [if_neg c1] at h; exact absurd h c1
  rw [if_neg k2] at h ⊢
  dsimp only at h ⊢
  rw [List.length_map]
  unfold getTexts at h ⊢
  by_cases h1 : (vget b).2.2 ≠ 0
  · rw [if_pos h1] at h; exact absurd h h1
  rw [if_neg h1] at h ⊢
  by_cases h2 : (vget b).1 > n
  · rw [if_pos h2] at h; simp at h
  rw [if_neg h2] at h ⊢
  generalize getWords (vget b).1.toNat (b.drop (vget b).2.1.toNat) = G at *
  by_cases h3 : G.2.2 ≠ 0
  · rw [if_pos h3] at h; exact absurd h h3
  rw [if_neg h3] at h ⊢
  have hl := which_len_eq G.1 n G.2.1
  generalize getWhich G.1 n G.2.1 = H at *
  by_cases h4 : H.2.2 ≠ 0
  · rw [if_pos h4] at h; exact absurd h h4
  rw [if_neg h4] at h ⊢
  by_cases h5 : encTexts H.1 = b
  · rw [if_pos h5]; exact hl (by simpa using h4)
  · rw [if_neg h5] at h; simp at h
end Go.Proofs.Ytlmcefhpnfoahaa.P
end
