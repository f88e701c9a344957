/- The row of the law ColumnBounds: at every input it answers true, and each argument reads behind the call as it did. No condition. -/
import Derived.WalkKit
import Derived.ProofKit
import Derived.OpenShut
import Derived.ShutString
import Derived.ChangeOld
import Derived.Below
import Derived.SizedLaws
import Derived.Test.YtlmcefhpnfoahaaRows
import Derived.Test.YtlmcefhpnfoahaaMColumnBounds0
section
namespace Go.Proofs.Ytlmcefhpnfoahaa.P
open Go.RowKit Go.Proofs.YtlmcefhpnfoahaaW.PrintWords Go.Proofs.YtlmcefhpnfoahaaW.PrintLast Go.Proofs.YtlmcefhpnfoahaaW.PrintMore
attribute [local go_sem] max2_int min2_int max_two min_two max_three min_three max_four min_four   -- for this text's walks alone
set_option linter.unusedVariables false
set_option linter.unusedSimpArgs false

theorem R_okne {α : Type} {d : Kd α} {e : TypeId} {w : World} {base : Nat} {ok : Nat → Prop} {v : Value} {xs : List α} (h : d.R e w base ok v xs) {g : Nat} (hk : ∀ k, ok k → k ≠ g) : some g ≠ v.ownBlock := fun he => hk g (h.1 g he.symm) rfl
mutual
def tidelineref06_Bounds.l0 : Nat → List (S39) → List (S39) → Int → Option (Int × Int × ByteArray × Int × Int × ByteArray)
  | 0, _, _, _ => none
  | k + 1, x0, x4, x5 => if x5 < (x0.length : Int) then (if 0 ≤ x5 then (if ((rd_T39 x0 x5).f0) = 0 then (tidelineref06_Bounds.l0 k x0 x4 (wrap64 (x5 + 1))) else (if x4.length < 4398046511104 then (tidelineref06_Bounds.l0 k x0 (x4 ++ [(⟨(rd_T39 x0 x5).f0, (rd_T39 x0 x5).f1, (rd_T39 x0 x5).f2⟩ : S39)]) (wrap64 (x5 + 1))) else (none))) else (none)) else (if (x4.length : Int) = 0 then (some (0, 0, (⟨#[]⟩ : ByteArray), 0, 0, (⟨#[]⟩ : ByteArray))) else (if 0 < (x4.length : Int) then (tidelineref06_Bounds.l1 k x4 1 ((rd_T39 x4 0).f0) ((rd_T39 x4 0).f1) ((rd_T39 x4 0).f2) ((rd_T39 x4 0).f0) ((rd_T39 x4 0).f1) ((rd_T39 x4 0).f2)) else (none)))
def tidelineref06_Bounds.l1 : Nat → List (S39) → Int → Int → Int → ByteArray → Int → Int → ByteArray → Option (Int × Int × ByteArray × Int × Int × ByteArray)
  | 0, _, _, _, _, _, _, _, _ => none
  | k + 1, x4, x8, x1221000, x1221001, x1221002, x1223000, x1223001, x1223002 => if x8 < (x4.length : Int) then (if 0 ≤ x8 then ((tidelineref03_Less.f ((rd_T39 x4 x8).f0) ((rd_T39 x4 x8).f1) ((rd_T39 x4 x8).f2) x1221000 x1221001 x1221002).bind fun t1224 => (if t1224 = true then ((tidelineref03_Less.f x1223000 x1223001 x1223002 ((rd_T39 x4 x8).f0) ((rd_T39 x4 x8).f1) ((rd_T39 x4 x8).f2)).bind fun t1227 => (if t1227 = true then (tidelineref06_Bounds.l1 k x4 (wrap64 (x8 + 1)) ((rd_T39 x4 x8).f0) ((rd_T39 x4 x8).f1) ((rd_T39 x4 x8).f2) ((rd_T39 x4 x8).f0) ((rd_T39 x4 x8).f1) ((rd_T39 x4 x8).f2)) else (tidelineref06_Bounds.l1 k x4 (wrap64 (x8 + 1)) ((rd_T39 x4 x8).f0) ((rd_T39 x4 x8).f1) ((rd_T39 x4 x8).f2) x1223000 x1223001 x1223002))) else ((tidelineref03_Less.f x1223000 x1223001 x1223002 ((rd_T39 x4 x8).f0) ((rd_T39 x4 x8).f1) ((rd_T39 x4 x8).f2)).bind fun t1230 => (if t1230 = true then (tidelineref06_Bounds.l1 k x4 (wrap64 (x8 + 1)) x1221000 x1221001 x1221002 ((rd_T39 x4 x8).f0) ((rd_T39 x4 x8).f1) ((rd_T39 x4 x8).f2)) else (tidelineref06_Bounds.l1 k x4 (wrap64 (x8 + 1)) x1221000 x1221001 x1221002 x1223000 x1223001 x1223002))))) else (none)) else (some (x1221000, x1221001, x1221002, x1223000, x1223001, x1223002))
end
def tidelineref06_Bounds.f (k : Nat) (l0 : List (S39)) : Option (Int × Int × ByteArray × Int × Int × ByteArray) := tidelineref06_Bounds.l0 k l0 ([] : List (S39)) 0
set_option maxHeartbeats 8000000 in
set_option maxRecDepth 100000 in
theorem tidelineref06_Bounds.calls (k : Nat) (A0 : Option Addr) (c0 : Nat) (l0 : List (S39)) (r1 : Int) (r2 : Int) (r3 : ByteArray) (r4 : Int) (r5 : Int) (r6 : ByteArray) (w : World) (hr0 : Kd.C k39 w A0 l0.length l0) (hc0 : l0.length ≤ c0) (h : tidelineref06_Bounds.f k l0 = some (r1, r2, r3, r4, r5, r6)) :
    Calls Try.prog 63 #[.slice A0 l0.length c0] w fun e w' => e = .returned (.tuple #[.agg #[.int .u8 r1, .int .i64 r2, .string r3], .agg #[.int .u8 r4, .int .i64 r5, .string r6]]) ∧ Below w.heap.size w w' := by
  have hu39 := Try.underlying39
  have HR0 := Aside0.mk hr0
  have HC0 := Aside0.mk hc0
  clear hr0 hc0
  have HB := Aside0.mk (Below.refl w.heap.size w)
  have H : (tidelineref06_Bounds.l0 k l0 ([] : List (S39)) 0) = some (r1, r2, r3, r4, r5, r6) := h
  clear h
  have H' := Aside0.mk H
  clear H
  go_enter Try.func63, Try.ntmps63
  go_wp2_with (first | ((with_reducible refine gate_dst (N := 2) rfl ?_); refine box_event ?hg (N := 2) ?hd (cs := #[.int .u8 0, .int .i64 0, .string (⟨#[]⟩ : ByteArray)]) (t := 39) ?hr ?_; (case hd => rfl); (case hg => rfl); (case hr => first | (go_simp; done) | (go_simp; rfl)); intro gb1212 hg w2 hbox hb; have n0_ := Aside0.mk (below_step (by repeat (first | (with_reducible first | exact HB.out | apply below_alloc | apply pw_below_drewN | apply below_drew1) | exact HB.out)) hb); have n1_ := Aside0.mk (hbox); have n2_ := Aside0.mk ((by rw [hg]; exact (below_size (by repeat (first | (with_reducible first | exact HB.out | apply below_alloc | apply pw_below_drewN | apply below_drew1) | exact HB.out))) : w.heap.size ≤ gb1212)); have n3_ := Aside0.mk ((by rw [hg]; exact (below_size (by repeat (first | (with_reducible first | exact HB.out | apply below_alloc | apply pw_below_drewN | apply below_drew1) | exact HB.out))) : w.heap.size ≤ gb1212)); clear HB; have HB := n0_; have BK1212 := n1_; have GW1212 := n2_; have GE1212 := n3_; clear n0_ n1_ n2_ n3_; clear hb hbox hg) | ((with_reducible refine gate_dst (N := 3) rfl ?_); refine box_event ?hg (N := 3) ?hd (cs := #[.int .u8 0, .int .i64 0, .string (⟨#[]⟩ : ByteArray)]) (t := 39) ?hr ?_; (case hd => rfl); (case hg => rfl); (case hr => first | (go_simp; done) | (go_simp; rfl)); intro gb1213 hg w3 hbox hb; have n0_ := Aside0.mk (blk_below (g := gb1212) (o := .cells #[.int .u8 0, .int .i64 0, .string (⟨#[]⟩ : ByteArray)] 39 (0, 0)) (by (with_reducible repeat (first | refine blk_drewN ?_ _ | refine blk_drew ?_ | refine blk_alloc ?_ _)); exact BK1212.out) hb); have n1_ := Aside0.mk (below_step (by repeat (first | (with_reducible first | exact HB.out | apply below_alloc | apply pw_below_drewN | apply below_drew1 | refine below_set ?_ GE1212.out) | exact HB.out)) hb); have n2_ := Aside0.mk (hbox); have n3_ := Aside0.mk ((by rw [hg]; exact (below_size (by repeat (first | (with_reducible first | exact HB.out | apply below_alloc | apply pw_below_drewN | apply below_drew1 | refine below_set ?_ GE1212.out) | exact HB.out))) : w.heap.size ≤ gb1213)); have n4_ := Aside0.mk ((by rw [hg]; exact (below_size (by repeat (first | (with_reducible first | exact HB.out | apply below_alloc | apply pw_below_drewN | apply below_drew1 | refine below_set ?_ GE1212.out) | exact HB.out))) : w.heap.size ≤ gb1213)); have n5_ := Aside0.mk ((by rw [hg]; exact Nat.ne_of_lt (blk_lt (g := gb1212) (o := .cells #[.int .u8 0, .int .i64 0, .string (⟨#[]⟩ : ByteArray)] 39 (0, 0)) (by (with_reducible repeat (first | refine blk_drewN ?_ _ | refine blk_drew ?_ | refine blk_alloc ?_ _)); exact BK1212.out)) : gb1212 ≠ gb1213)); have n6_ := Aside0.mk ((by rw [hg]; exact Nat.ne_of_gt (blk_lt (g := gb1212) (o := .cells #[.int .u8 0, .int .i64 0, .string (⟨#[]⟩ : ByteArray)] 39 (0, 0)) (by (with_reducible repeat (first | refine blk_drewN ?_ _ | refine blk_drew ?_ | refine blk_alloc ?_ _)); exact BK1212.out)) : gb1213 ≠ gb1212)); clear BK1212; clear HB; have BK1212 := n0_; have HB := n1_; have BK1213 := n2_; have GW1213 := n3_; have GE1213 := n4_; have NB1212_1213 := n5_; have NB1213_1212 := n6_; clear n0_ n1_ n2_ n3_ n4_ n5_ n6_; clear hb hbox hg))
  go_loopg [4, 5] k (fun kq v4 v5 w' => ∃ (x4_1 : List (S39)) (x5_1 : Int), v5 = .int .i64 x5_1 ∧ Aside0 (tidelineref06_Bounds.l0 kq l0 x4_1 x5_1 = some (r1, r2, r3, r4, r5, r6)) ∧ Aside0 (kq ≤ k) ∧ Aside0 (Kd.R k39 39 w' w.heap.size (fun k_ => k_ ≠ gb1212 ∧ k_ ≠ gb1213) v4 x4_1) ∧ Aside0 (w'.heap[gb1212]? = some (.cells #[.int .u8 0, .int .i64 0, .string (⟨#[]⟩ : ByteArray)] 39 (0, 0))) ∧ Aside0 (w'.heap[gb1213]? = some (.cells #[.int .u8 0, .int .i64 0, .string (⟨#[]⟩ : ByteArray)] 39 (0, 0))) ∧ Aside0 (Below w.heap.size w w'))
  case atStart => exact ⟨(([] : List (S39))), (0), (by first | rfl | (simp; done) | (simp [*]; done)), H', ⟨Nat.le_refl _⟩, ⟨by first | exact Kd.R_nil _ _ _ _ _ | exact Kd.N_nil _ _ _ _ _ | exact Kd.V_nil _ _ _ _ _ | exact Kd.Q_nil _ _ _ _ _ | exact Kd.S_nil _ _ _ _ _⟩, ⟨by (with_reducible repeat (first | refine blk_drewN ?_ _ | refine blk_drew ?_ | refine blk_alloc ?_ _)); exact BK1212.out⟩, ⟨by (with_reducible repeat (first | refine blk_drewN ?_ _ | refine blk_drew ?_ | refine blk_alloc ?_ _)); exact BK1213.out⟩, ⟨by repeat (first | (with_reducible first | exact HB.out | apply below_alloc | apply pw_below_drewN | apply below_drew1 | refine below_set ?_ GE1212.out | refine below_set ?_ GE1213.out) | exact HB.out)⟩⟩
  case round =>
    clear H'
    try clear p2
    obtain ⟨x4_1, x5_1, rfl, HA, HK1, HO_4, BK1212, BK1213, HB⟩ := hrel
    cases gk with
    | zero => exact absurd HA.out (by simp [tidelineref06_Bounds.l0])
    | succ k1 =>
      have H := HA.out
      clear HA
      simp only [tidelineref06_Bounds.l0] at H
      by_cases c4 : x5_1 < (l0.length : Int)
      · rw [if_pos c4] at H
        have c4b0 : decide (x5_1 < (l0.length : Int)) = true := decide_eq_true c4
        clear c4
        by_cases c5 : 0 ≤ x5_1
        · rw [if_pos c5] at H
          have c5b0 : decide (0 ≤ x5_1) = true := decide_eq_true c5
          clear c5
          by_cases c6 : ((rd_T39 l0 x5_1).f0) = 0
          · rw [if_pos c6] at H
            have c6b0 : (((rd_T39 l0 x5_1).f0) == 0) = true := beq_iff_eq.mpr c6
            have c6b1 : (((rd_T39 l0 x5_1).f0) != 0) = false := bne_eq_false_iff_eq.mpr c6
            clear c6
            have H' := Aside0.mk H
            clear H
            have p1214 : 0 ≤ (x5_1 : Int) := of_decide_eq_true (by first | (with_reducible assumption) | assumption)
            have q1214 : x5_1 < (l0.length : Int) := of_decide_eq_true (by first | (with_reducible assumption) | assumption)
            obtain ⟨ad1214, e1214, hx1214_0, hx1214_1, hx1214_2⟩ := at_T39 HR0.out x5_1 p1214 q1214
            cases e1214
            replace hx1214_0 := (HB.out.cell (World.block_lt_of_cell? w _ hx1214_0)).trans hx1214_0
            replace hx1214_1 := (HB.out.cell (World.block_lt_of_cell? w _ hx1214_1)).trans hx1214_1
            replace hx1214_2 := (HB.out.cell (World.block_lt_of_cell? w _ hx1214_2)).trans hx1214_2
            replace p1214 := eq_true p1214
            replace q1214 := eq_true q1214
            go_wp2
            go_roundg k1
            case measure => have := HK1.out; omega
            case rel => exact ⟨(x4_1), (wrap64 (x5_1 + 1)), (by first | rfl | (simp; done) | (simp [*]; done)), H', ⟨by have := HK1.out; omega⟩, ⟨by (with_reducible repeat (first | apply Kd.R_alloc | apply Kd.R_drewN | apply Kd.R_drew)); exact HO_4.out⟩, ⟨by (with_reducible repeat (first | refine blk_drewN ?_ _ | refine blk_drew ?_ | refine blk_alloc ?_ _)); exact BK1212.out⟩, ⟨by (with_reducible repeat (first | refine blk_drewN ?_ _ | refine blk_drew ?_ | refine blk_alloc ?_ _)); exact BK1213.out⟩, ⟨by repeat (first | (with_reducible first | exact HB.out | apply below_alloc | apply pw_below_drewN | apply below_drew1 | refine below_set ?_ GE1212.out | refine below_set ?_ GE1213.out) | exact HB.out)⟩⟩
          · rw [if_neg c6] at H
            have c6b0 : (((rd_T39 l0 x5_1).f0) == 0) = false := beq_eq_false_iff_ne.mpr c6
            have c6b1 : (((rd_T39 l0 x5_1).f0) != 0) = true := bne_iff_ne.mpr c6
            by_cases c7 : x4_1.length < 4398046511104
            · rw [if_pos c7] at H
              have LMc7 := Aside0.mk c7
              clear c7
              obtain ⟨y1216, hy1216⟩ : ∃ y_ : List (S39), y_ = (x4_1 ++ [(⟨(rd_T39 l0 x5_1).f0, (rd_T39 l0 x5_1).f1, (rd_T39 l0 x5_1).f2⟩ : S39)]) := ⟨_, rfl⟩
              replace H : (tidelineref06_Bounds.l0 k1 l0 y1216 (wrap64 (x5_1 + 1))) = some (r1, r2, r3, r4, r5, r6) := by first | (rw [hy1216]; with_reducible exact H) | (have H2_ := (Option.bind_some _ _).symm.trans H; rw [hy1216]; with_reducible exact H2_) | (have H2_ := (Option.bind_some _ _).symm.trans H; with_reducible exact H2_) | with_reducible exact H | (rw [hy1216]; exact H) | exact H
              have Ny1216 := Aside0.mk hy1216
              clear hy1216
              have H' := Aside0.mk H
              clear H
              have p1214 : 0 ≤ (x5_1 : Int) := of_decide_eq_true (by first | (with_reducible assumption) | assumption)
              have q1214 : x5_1 < (l0.length : Int) := of_decide_eq_true (by first | (with_reducible assumption) | assumption)
              obtain ⟨ad1214, e1214, hx1214_0, hx1214_1, hx1214_2⟩ := at_T39 HR0.out x5_1 p1214 q1214
              cases e1214
              replace hx1214_0 := (HB.out.cell (World.block_lt_of_cell? w _ hx1214_0)).trans hx1214_0
              replace hx1214_1 := (HB.out.cell (World.block_lt_of_cell? w _ hx1214_1)).trans hx1214_1
              replace hx1214_2 := (HB.out.cell (World.block_lt_of_cell? w _ hx1214_2)).trans hx1214_2
              replace p1214 := eq_true p1214
              replace q1214 := eq_true q1214
              have p1215 : 0 ≤ (x5_1 : Int) := of_decide_eq_true (by first | (with_reducible assumption) | assumption)
              have q1215 : x5_1 < (l0.length : Int) := of_decide_eq_true (by first | (with_reducible assumption) | assumption)
              obtain ⟨ad1215, e1215, hx1215_0, hx1215_1, hx1215_2⟩ := at_T39 HR0.out x5_1 p1215 q1215
              obtain rfl : ad1214 = ad1215 := (by injection e1215)
              replace hx1215_0 := (HB.out.cell (World.block_lt_of_cell? w _ hx1215_0)).trans hx1215_0
              replace hx1215_1 := (HB.out.cell (World.block_lt_of_cell? w _ hx1215_1)).trans hx1215_1
              replace hx1215_2 := (HB.out.cell (World.block_lt_of_cell? w _ hx1215_2)).trans hx1215_2
              replace p1215 := eq_true p1215
              replace q1215 := eq_true q1215
              go_wp2_with (first | ((with_reducible refine gate_builtin (b := .append) (xs := #[.tmp 21, .tmp 26]) rfl ?_); at_builtin; refine Kd.R_append k39 (w0 := w) w.heap.size rfl (.tmp 21) (.tmp 26) 23 39 (.agg #[(.int .u8 0), (.int .i64 0), (.string ⟨#[]⟩)]) 32 rfl Try.underlying23 info39 rfl (by decide) (by omega) u4 x4_1 (⟨(rd_T39 l0 x5_1).f0, (rd_T39 l0 x5_1).f1, (rd_T39 l0 x5_1).f2⟩ : S39) [.int .u8 ((rd_T39 l0 x5_1).f0), .int .i64 ((rd_T39 l0 x5_1).f1), .string ((rd_T39 l0 x5_1).f2)] (fun k_ => k_ ≠ gb1212 ∧ k_ ≠ gb1213) (fun _ => False) rfl rfl ?aP (fun _ hk => hk.elim) ?aF ?aO ?aB ?aS ?aL ?_; (case aP => exact k39_mkM _ _ _ (⟨(rd_T39 l0 x5_1).f0, (rd_T39 l0 x5_1).f1, (rd_T39 l0 x5_1).f2⟩ : S39)); (case aB => exact (by repeat (first | (with_reducible first | exact HB.out | apply below_alloc | apply pw_below_drewN | apply below_drew1 | refine below_set ?_ GE1212.out | refine below_set ?_ GE1213.out) | exact HB.out))); (case aF => exact (fun k_ hk => ⟨Kd.freshB (g := gb1212) (o := .cells #[.int .u8 0, .int .i64 0, .string (⟨#[]⟩ : ByteArray)] 39 (0, 0)) (by (with_reducible repeat (first | refine blk_drewN ?_ _ | refine blk_drew ?_ | refine blk_alloc ?_ _)); exact BK1212.out) k_ hk, Kd.freshB (g := gb1213) (o := .cells #[.int .u8 0, .int .i64 0, .string (⟨#[]⟩ : ByteArray)] 39 (0, 0)) (by (with_reducible repeat (first | refine blk_drewN ?_ _ | refine blk_drew ?_ | refine blk_alloc ?_ _)); exact BK1213.out) k_ hk⟩)); (case aO => exact (by (with_reducible repeat (first | apply Kd.R_alloc | apply Kd.R_drewN | apply Kd.R_drew)); exact HO_4.out)); (case aS => exact (below_size (by repeat (first | (with_reducible first | exact HB.out | apply below_alloc | apply pw_below_drewN | apply below_drew1 | refine below_set ?_ GE1212.out | refine below_set ?_ GE1213.out) | exact HB.out)))); (case aL => have := LMc7.out; omega); intro v1217 w8 ho hb hg hat; rw [← Ny1216.out] at ho; have n0_ := Aside0.mk (blk_grown (g := gb1212) (o := .cells #[.int .u8 0, .int .i64 0, .string (⟨#[]⟩ : ByteArray)] 39 (0, 0)) (by (with_reducible repeat (first | refine blk_drewN ?_ _ | refine blk_drew ?_ | refine blk_alloc ?_ _)); exact BK1212.out) hg (Kd.R_away HO_4.out (fun _ hk => hk.1))); have n1_ := Aside0.mk (blk_grown (g := gb1213) (o := .cells #[.int .u8 0, .int .i64 0, .string (⟨#[]⟩ : ByteArray)] 39 (0, 0)) (by (with_reducible repeat (first | refine blk_drewN ?_ _ | refine blk_drew ?_ | refine blk_alloc ?_ _)); exact BK1213.out) hg (Kd.R_away HO_4.out (fun _ hk => hk.2))); have n2_ := Aside0.mk (hb); have n3_ := Aside0.mk (ho); clear BK1212; clear BK1213; clear HB; clear HO_4; have BK1212 := n0_; have BK1213 := n1_; have HB := n2_; have HO1218 := n3_; clear n0_ n1_ n2_ n3_; clear ho hb hg hat))
              go_roundg k1
              case measure => have := HK1.out; omega
              case rel => exact ⟨(y1216), (wrap64 (x5_1 + 1)), (by first | rfl | (simp; done) | (simp [*]; done)), H', ⟨by have := HK1.out; omega⟩, ⟨by (with_reducible repeat (first | apply Kd.R_alloc | apply Kd.R_drewN | apply Kd.R_drew)); exact HO1218.out⟩, ⟨by (with_reducible repeat (first | refine blk_drewN ?_ _ | refine blk_drew ?_ | refine blk_alloc ?_ _)); exact BK1212.out⟩, ⟨by (with_reducible repeat (first | refine blk_drewN ?_ _ | refine blk_drew ?_ | refine blk_alloc ?_ _)); exact BK1213.out⟩, ⟨by repeat (first | (with_reducible first | exact HB.out | apply below_alloc | apply pw_below_drewN | apply below_drew1 | refine below_set ?_ GE1212.out | refine below_set ?_ GE1213.out) | exact HB.out)⟩⟩
            · rw [if_neg c7] at H
              exact absurd H (by simp)
        · rw [if_neg c5] at H
          exact absurd H (by simp)
      · rw [if_neg c4] at H
        have c4b0 : decide (x5_1 < (l0.length : Int)) = false := decide_eq_false c4
        clear c4
        by_cases c9 : (x4_1.length : Int) = 0
        · rw [if_pos c9] at H
          have c9b0 : ((x4_1.length : Int) == 0) = true := beq_iff_eq.mpr c9
          have c9b1 : ((x4_1.length : Int) != 0) = false := bne_eq_false_iff_eq.mpr c9
          clear c9
          simp only [Option.some.injEq, Prod.mk.injEq] at H
          obtain ⟨rfl, rfl, rfl, rfl, rfl, rfl⟩ := H
          obtain ⟨Ao10, co10, eo10⟩ := Kd.R_slice HO_4.out
          subst eo10
          have hnb11 := NB1212_1213.out
          have hnc11 := NB1213_1212.out
          have hcz12_0 : wr.cell? ⟨gb1212, 0, none⟩ = some (.int .u8 0) := (blk_cell BK1212.out 0).trans rfl
          have hcz12_1 : wr.cell? ⟨gb1212, 1, none⟩ = some (.int .i64 0) := (blk_cell BK1212.out 1).trans rfl
          have hcz12_2 : wr.cell? ⟨gb1212, 2, none⟩ = some (.string (⟨#[]⟩ : ByteArray)) := (blk_cell BK1212.out 2).trans rfl
          have hfz12_0 := blk_frozen BK1212.out 0
          have hfz12_1 := blk_frozen BK1212.out 1
          have hfz12_2 := blk_frozen BK1212.out 2
          have hcz13_0 : wr.cell? ⟨gb1213, 0, none⟩ = some (.int .u8 0) := (blk_cell BK1213.out 0).trans rfl
          have hcz13_1 : wr.cell? ⟨gb1213, 1, none⟩ = some (.int .i64 0) := (blk_cell BK1213.out 1).trans rfl
          have hcz13_2 : wr.cell? ⟨gb1213, 2, none⟩ = some (.string (⟨#[]⟩ : ByteArray)) := (blk_cell BK1213.out 2).trans rfl
          have hfz13_0 := blk_frozen BK1213.out 0
          have hfz13_1 := blk_frozen BK1213.out 1
          have hfz13_2 := blk_frozen BK1213.out 2
          go_wp2
          refine bodyPost_ret (results_cc rfl _ _ gb1212 gb1213 39 39 #[.int .u8 0, .int .i64 0, .string (⟨#[]⟩ : ByteArray)] #[.int .u8 0, .int .i64 0, .string (⟨#[]⟩ : ByteArray)] (0, 0) (0, 0) _ _ rfl (by (with_reducible repeat (first | refine blk_drewN ?_ _ | refine blk_drew ?_ | refine blk_alloc ?_ _)); refine blk_far ?_ NB1212_1213.out _; (with_reducible repeat (first | refine blk_drewN ?_ _ | refine blk_drew ?_ | refine blk_alloc ?_ _)); refine blk_far ?_ NB1212_1213.out _; (with_reducible repeat (first | refine blk_drewN ?_ _ | refine blk_drew ?_ | refine blk_alloc ?_ _)); refine blk_far ?_ NB1212_1213.out _; (with_reducible repeat (first | refine blk_drewN ?_ _ | refine blk_drew ?_ | refine blk_alloc ?_ _)); refine blk_put (cs := #[.int .u8 0, .int .i64 0, .string (⟨#[]⟩ : ByteArray)]) ?_ 2 _ rfl; (with_reducible repeat (first | refine blk_drewN ?_ _ | refine blk_drew ?_ | refine blk_alloc ?_ _)); refine blk_put (cs := #[.int .u8 0, .int .i64 0, .string (⟨#[]⟩ : ByteArray)]) ?_ 1 _ rfl; (with_reducible repeat (first | refine blk_drewN ?_ _ | refine blk_drew ?_ | refine blk_alloc ?_ _)); refine blk_put (cs := #[.int .u8 0, .int .i64 0, .string (⟨#[]⟩ : ByteArray)]) ?_ 0 _ rfl; (with_reducible repeat (first | refine blk_drewN ?_ _ | refine blk_drew ?_ | refine blk_alloc ?_ _)); exact BK1212.out) Try.underlying39 rfl (by kernel_rfl) rfl (by (with_reducible repeat (first | refine blk_drewN ?_ _ | refine blk_drew ?_ | refine blk_alloc ?_ _)); refine blk_put (cs := #[.int .u8 0, .int .i64 0, .string (⟨#[]⟩ : ByteArray)]) ?_ 2 _ rfl; (with_reducible repeat (first | refine blk_drewN ?_ _ | refine blk_drew ?_ | refine blk_alloc ?_ _)); refine blk_put (cs := #[.int .u8 0, .int .i64 0, .string (⟨#[]⟩ : ByteArray)]) ?_ 1 _ rfl; (with_reducible repeat (first | refine blk_drewN ?_ _ | refine blk_drew ?_ | refine blk_alloc ?_ _)); refine blk_put (cs := #[.int .u8 0, .int .i64 0, .string (⟨#[]⟩ : ByteArray)]) ?_ 0 _ rfl; (with_reducible repeat (first | refine blk_drewN ?_ _ | refine blk_drew ?_ | refine blk_alloc ?_ _)); refine blk_far ?_ NB1213_1212.out _; (with_reducible repeat (first | refine blk_drewN ?_ _ | refine blk_drew ?_ | refine blk_alloc ?_ _)); refine blk_far ?_ NB1213_1212.out _; (with_reducible repeat (first | refine blk_drewN ?_ _ | refine blk_drew ?_ | refine blk_alloc ?_ _)); refine blk_far ?_ NB1213_1212.out _; (with_reducible repeat (first | refine blk_drewN ?_ _ | refine blk_drew ?_ | refine blk_alloc ?_ _)); exact BK1213.out) Try.underlying39 rfl (by kernel_rfl)) rfl ?_
          exact ⟨by first | rfl | (simp [errW_none, errW_some] <;> rfl) | (simp [*, errW_none, errW_some] <;> rfl), by repeat (first | (with_reducible first | exact HB.out | apply below_alloc | apply pw_below_drewN | apply below_drew1 | refine below_set ?_ GE1212.out | refine below_set ?_ GE1213.out) | exact HB.out)⟩
        · rw [if_neg c9] at H
          have c9b0 : ((x4_1.length : Int) == 0) = false := beq_eq_false_iff_ne.mpr c9
          have c9b1 : ((x4_1.length : Int) != 0) = true := bne_iff_ne.mpr c9
          have c9b2 : ¬ (x4_1 = []) := fun h_ => c9 (by rw [h_]; rfl)
          by_cases c14 : 0 < (x4_1.length : Int)
          · rw [if_pos c14] at H
            have c14b0 : decide (0 < (x4_1.length : Int)) = true := decide_eq_true c14
            have c14b1 : decide (0 < x4_1.length) = true := decide_eq_true (by omega)
            clear c14
            have H' := Aside0.mk H
            clear H
            obtain ⟨Ao15, co15, eo15⟩ := Kd.R_slice HO_4.out
            subst eo15
            have p1219 : 0 ≤ (0 : Int) := (by omega)
            have q1219 : 0 < (x4_1.length : Int) := of_decide_eq_true (by first | (with_reducible assumption) | assumption)
            obtain ⟨ad1219, e1219, hx1219_0, hx1219_1, hx1219_2⟩ := at_T39 (Kd.R_reads' HO_4.out).2.2 0 p1219 q1219
            cases e1219
            have qi1219 : (0 < x4_1.length) = True := eq_true (by omega)
            (try rw [show ((0 : Int)).toNat = 0 from rfl] at hx1219_0)
            (try rw [show 0 * 3 = 0 from rfl] at hx1219_0)
            (try rw [Addr.add_zero'] at hx1219_0)
            (try rw [show ((0 : Int)).toNat = 0 from rfl] at hx1219_1)
            (try rw [show 0 * 3 = 0 from rfl] at hx1219_1)
            (try rw [Addr.add_zero'] at hx1219_1)
            (try rw [show ((0 : Int)).toNat = 0 from rfl] at hx1219_2)
            (try rw [show 0 * 3 = 0 from rfl] at hx1219_2)
            (try rw [Addr.add_zero'] at hx1219_2)
            replace p1219 := eq_true p1219
            replace q1219 := eq_true q1219
            go_wp2_with (first | ((with_reducible refine gate_dst (N := 6) rfl ?_); refine box_event ?hg (N := 6) ?hd (cs := #[.int .u8 0, .int .i64 0, .string (⟨#[]⟩ : ByteArray)]) (t := 39) ?hr ?_; (case hd => rfl); (case hg => rfl); (case hr => first | (go_simp; done) | (go_simp; rfl)); intro gb1220 hg w16 hbox hb; have n0_ := Aside0.mk (Kd.R_below (Kd.R_elderB (by (with_reducible repeat (first | apply Kd.R_alloc | apply Kd.R_drewN | apply Kd.R_drew)); exact HO_4.out) gb1220 (Nat.le_of_eq hg.symm)) hb); have n1_ := Aside0.mk (blk_below (g := gb1212) (o := .cells #[.int .u8 0, .int .i64 0, .string (⟨#[]⟩ : ByteArray)] 39 (0, 0)) (by (with_reducible repeat (first | refine blk_drewN ?_ _ | refine blk_drew ?_ | refine blk_alloc ?_ _)); exact BK1212.out) hb); have n2_ := Aside0.mk (blk_below (g := gb1213) (o := .cells #[.int .u8 0, .int .i64 0, .string (⟨#[]⟩ : ByteArray)] 39 (0, 0)) (by (with_reducible repeat (first | refine blk_drewN ?_ _ | refine blk_drew ?_ | refine blk_alloc ?_ _)); exact BK1213.out) hb); have n3_ := Aside0.mk (below_step (by repeat (first | (with_reducible first | exact HB.out | apply below_alloc | apply pw_below_drewN | apply below_drew1 | refine below_set ?_ GE1212.out | refine below_set ?_ GE1213.out) | exact HB.out)) hb); have n4_ := Aside0.mk (hbox); have n5_ := Aside0.mk ((by rw [hg]; exact (below_size (by repeat (first | (with_reducible first | exact HB.out | apply below_alloc | apply pw_below_drewN | apply below_drew1 | refine below_set ?_ GE1212.out | refine below_set ?_ GE1213.out) | exact HB.out))) : w.heap.size ≤ gb1220)); have n6_ := Aside0.mk ((by rw [hg]; exact (below_size (by repeat (first | (with_reducible first | exact HB.out | apply below_alloc | apply pw_below_drewN | apply below_drew1 | refine below_set ?_ GE1212.out | refine below_set ?_ GE1213.out) | exact HB.out))) : w.heap.size ≤ gb1220)); have n7_ := Aside0.mk ((by rw [hg]; exact Nat.ne_of_lt (blk_lt (g := gb1212) (o := .cells #[.int .u8 0, .int .i64 0, .string (⟨#[]⟩ : ByteArray)] 39 (0, 0)) (by (with_reducible repeat (first | refine blk_drewN ?_ _ | refine blk_drew ?_ | refine blk_alloc ?_ _)); exact BK1212.out)) : gb1212 ≠ gb1220)); have n8_ := Aside0.mk ((by rw [hg]; exact Nat.ne_of_gt (blk_lt (g := gb1212) (o := .cells #[.int .u8 0, .int .i64 0, .string (⟨#[]⟩ : ByteArray)] 39 (0, 0)) (by (with_reducible repeat (first | refine blk_drewN ?_ _ | refine blk_drew ?_ | refine blk_alloc ?_ _)); exact BK1212.out)) : gb1220 ≠ gb1212)); have n9_ := Aside0.mk ((by rw [hg]; exact Nat.ne_of_lt (blk_lt (g := gb1213) (o := .cells #[.int .u8 0, .int .i64 0, .string (⟨#[]⟩ : ByteArray)] 39 (0, 0)) (by (with_reducible repeat (first | refine blk_drewN ?_ _ | refine blk_drew ?_ | refine blk_alloc ?_ _)); exact BK1213.out)) : gb1213 ≠ gb1220)); have n10_ := Aside0.mk ((by rw [hg]; exact Nat.ne_of_gt (blk_lt (g := gb1213) (o := .cells #[.int .u8 0, .int .i64 0, .string (⟨#[]⟩ : ByteArray)] 39 (0, 0)) (by (with_reducible repeat (first | refine blk_drewN ?_ _ | refine blk_drew ?_ | refine blk_alloc ?_ _)); exact BK1213.out)) : gb1220 ≠ gb1213)); clear HO_4; clear BK1212; clear BK1213; clear HB; have HO_4 := n0_; have BK1212 := n1_; have BK1213 := n2_; have HB := n3_; have BK1220 := n4_; have GW1220 := n5_; have GE1220 := n6_; have NB1212_1220 := n7_; have NB1220_1212 := n8_; have NB1213_1220 := n9_; have NB1220_1213 := n10_; clear n0_ n1_ n2_ n3_ n4_ n5_ n6_ n7_ n8_ n9_ n10_; clear hb hbox hg; have hnb17 := NB1220_1212.out; have hnc17 := NB1212_1220.out; have hnb18 := NB1220_1213.out; have hnc18 := NB1213_1220.out; have hcz19_0 : w16.cell? ⟨gb1220, 0, none⟩ = some (.int .u8 0) := (blk_cell BK1220.out 0).trans rfl; have hcz19_1 : w16.cell? ⟨gb1220, 1, none⟩ = some (.int .i64 0) := (blk_cell BK1220.out 1).trans rfl; have hcz19_2 : w16.cell? ⟨gb1220, 2, none⟩ = some (.string (⟨#[]⟩ : ByteArray)) := (blk_cell BK1220.out 2).trans rfl; have hfz19_0 := blk_frozen BK1220.out 0; have hfz19_1 := blk_frozen BK1220.out 1; have hfz19_2 := blk_frozen BK1220.out 2; have p1221 : 0 ≤ (0 : Int) := (by omega); have q1221 : 0 < (x4_1.length : Int) := of_decide_eq_true (by first | (with_reducible assumption) | assumption); obtain ⟨ad1221, e1221, hx1221_0, hx1221_1, hx1221_2⟩ := at_T39 (Kd.R_reads' HO_4.out).2.2 0 p1221 q1221; obtain rfl : ad1219 = ad1221 := (by injection e1221); have qi1221 : (0 < x4_1.length) = True := eq_true (by omega); (try rw [show ((0 : Int)).toNat = 0 from rfl] at hx1221_0); (try rw [show 0 * 3 = 0 from rfl] at hx1221_0); (try rw [Addr.add_zero'] at hx1221_0); (try rw [show ((0 : Int)).toNat = 0 from rfl] at hx1221_1); (try rw [show 0 * 3 = 0 from rfl] at hx1221_1); (try rw [Addr.add_zero'] at hx1221_1); (try rw [show ((0 : Int)).toNat = 0 from rfl] at hx1221_2); (try rw [show 0 * 3 = 0 from rfl] at hx1221_2); (try rw [Addr.add_zero'] at hx1221_2); have hn1221_0 : ad1219.block ≠ gb1220 := Kd.own_blk (R_okne HO_4.out (fun k hk => by first | exact hk.2 | exact hk.1 | exact hk.1.2 | exact hk.1.1 | exact hk.2.1 | exact hk.2.2.1 | exact hk.2.2.2 | exact hk.1.2.1 | exact hk.1.2.2)); have hn1221_1 : ad1219.block ≠ gb1220 := Kd.own_blk (R_okne HO_4.out (fun k hk => by first | exact hk.2 | exact hk.1 | exact hk.1.2 | exact hk.1.1 | exact hk.2.1 | exact hk.2.2.1 | exact hk.2.2.2 | exact hk.1.2.1 | exact hk.1.2.2)); have hn1221_2 : ad1219.block ≠ gb1220 := Kd.own_blk (R_okne HO_4.out (fun k hk => by first | exact hk.2 | exact hk.1 | exact hk.1.2 | exact hk.1.1 | exact hk.2.1 | exact hk.2.2.1 | exact hk.2.2.2 | exact hk.1.2.1 | exact hk.1.2.2)); replace hx1221_0 := (cell_far (p := ⟨gb1220, 0, none⟩) (by first | (rw [add_block]; exact hn1221_0) | (show (Addr.add _ _).block ≠ _; rw [add_block]; exact hn1221_0) | exact hn1221_0) (.int .u8 ((rd_T39 x4_1 0).f0))).trans hx1221_0; replace hx1221_1 := (cell_far (p := ⟨gb1220, 0, none⟩) (by first | (rw [add_block]; exact hn1221_0) | (show (Addr.add _ _).block ≠ _; rw [add_block]; exact hn1221_0) | exact hn1221_0) (.int .u8 ((rd_T39 x4_1 0).f0))).trans hx1221_1; replace hx1221_2 := (cell_far (p := ⟨gb1220, 0, none⟩) (by first | (rw [add_block]; exact hn1221_0) | (show (Addr.add _ _).block ≠ _; rw [add_block]; exact hn1221_0) | exact hn1221_0) (.int .u8 ((rd_T39 x4_1 0).f0))).trans hx1221_2; replace hx1221_0 := (cell_far (p := ⟨gb1220, 1, none⟩) (by first | (rw [add_block]; exact hn1221_1) | (show (Addr.add _ _).block ≠ _; rw [add_block]; exact hn1221_1) | exact hn1221_1) (.int .i64 ((rd_T39 x4_1 0).f1))).trans hx1221_0; replace hx1221_1 := (cell_far (p := ⟨gb1220, 1, none⟩) (by first | (rw [add_block]; exact hn1221_1) | (show (Addr.add _ _).block ≠ _; rw [add_block]; exact hn1221_1) | exact hn1221_1) (.int .i64 ((rd_T39 x4_1 0).f1))).trans hx1221_1; replace hx1221_2 := (cell_far (p := ⟨gb1220, 1, none⟩) (by first | (rw [add_block]; exact hn1221_1) | (show (Addr.add _ _).block ≠ _; rw [add_block]; exact hn1221_1) | exact hn1221_1) (.int .i64 ((rd_T39 x4_1 0).f1))).trans hx1221_2; replace hx1221_0 := (cell_far (p := ⟨gb1220, 2, none⟩) (by first | (rw [add_block]; exact hn1221_2) | (show (Addr.add _ _).block ≠ _; rw [add_block]; exact hn1221_2) | exact hn1221_2) (.string ((rd_T39 x4_1 0).f2))).trans hx1221_0; replace hx1221_1 := (cell_far (p := ⟨gb1220, 2, none⟩) (by first | (rw [add_block]; exact hn1221_2) | (show (Addr.add _ _).block ≠ _; rw [add_block]; exact hn1221_2) | exact hn1221_2) (.string ((rd_T39 x4_1 0).f2))).trans hx1221_1; replace hx1221_2 := (cell_far (p := ⟨gb1220, 2, none⟩) (by first | (rw [add_block]; exact hn1221_2) | (show (Addr.add _ _).block ≠ _; rw [add_block]; exact hn1221_2) | exact hn1221_2) (.string ((rd_T39 x4_1 0).f2))).trans hx1221_2; clear hn1221_0; clear hn1221_1; clear hn1221_2; replace p1221 := eq_true p1221; replace q1221 := eq_true q1221) | ((with_reducible refine gate_dst (N := 7) rfl ?_); refine box_event ?hg (N := 7) ?hd (cs := #[.int .u8 0, .int .i64 0, .string (⟨#[]⟩ : ByteArray)]) (t := 39) ?hr ?_; (case hd => rfl); (case hg => rfl); (case hr => first | (go_simp; done) | (go_simp; rfl)); intro gb1222 hg w20 hbox hb; have n0_ := Aside0.mk (Kd.R_below (Kd.R_elderB (by (with_reducible repeat (first | apply Kd.R_alloc | apply Kd.R_drewN | apply Kd.R_drew)); exact (Kd.R_mono (Kd.R_far (p := ⟨gb1220, 2, none⟩) (Kd.R_far (p := ⟨gb1220, 1, none⟩) (Kd.R_far (p := ⟨gb1220, 0, none⟩) (Kd.R_mono HO_4.out (fun k_ hk => (⟨hk, hk.2⟩ : _ ∧ k_ ≠ gb1220))) (fun _ hk => hk.2) (.int .u8 ((rd_T39 x4_1 0).f0))) (fun _ hk => hk.2) (.int .i64 ((rd_T39 x4_1 0).f1))) (fun _ hk => hk.2) (.string ((rd_T39 x4_1 0).f2))) (fun _ h_ => h_.1))) gb1222 (Nat.le_of_eq hg.symm)) hb); have n1_ := Aside0.mk (blk_below (g := gb1212) (o := .cells #[.int .u8 0, .int .i64 0, .string (⟨#[]⟩ : ByteArray)] 39 (0, 0)) (by (with_reducible repeat (first | refine blk_drewN ?_ _ | refine blk_drew ?_ | refine blk_alloc ?_ _)); refine blk_far ?_ NB1212_1220.out _; (with_reducible repeat (first | refine blk_drewN ?_ _ | refine blk_drew ?_ | refine blk_alloc ?_ _)); refine blk_far ?_ NB1212_1220.out _; (with_reducible repeat (first | refine blk_drewN ?_ _ | refine blk_drew ?_ | refine blk_alloc ?_ _)); refine blk_far ?_ NB1212_1220.out _; (with_reducible repeat (first | refine blk_drewN ?_ _ | refine blk_drew ?_ | refine blk_alloc ?_ _)); exact BK1212.out) hb); have n2_ := Aside0.mk (blk_below (g := gb1213) (o := .cells #[.int .u8 0, .int .i64 0, .string (⟨#[]⟩ : ByteArray)] 39 (0, 0)) (by (with_reducible repeat (first | refine blk_drewN ?_ _ | refine blk_drew ?_ | refine blk_alloc ?_ _)); refine blk_far ?_ NB1213_1220.out _; (with_reducible repeat (first | refine blk_drewN ?_ _ | refine blk_drew ?_ | refine blk_alloc ?_ _)); refine blk_far ?_ NB1213_1220.out _; (with_reducible repeat (first | refine blk_drewN ?_ _ | refine blk_drew ?_ | refine blk_alloc ?_ _)); refine blk_far ?_ NB1213_1220.out _; (with_reducible repeat (first | refine blk_drewN ?_ _ | refine blk_drew ?_ | refine blk_alloc ?_ _)); exact BK1213.out) hb); have n3_ := Aside0.mk (blk_below (g := gb1220) (o := .cells #[.int .u8 ((rd_T39 x4_1 0).f0), .int .i64 ((rd_T39 x4_1 0).f1), .string ((rd_T39 x4_1 0).f2)] 39 (0, 0)) (by (with_reducible repeat (first | refine blk_drewN ?_ _ | refine blk_drew ?_ | refine blk_alloc ?_ _)); refine blk_put (cs := #[.int .u8 ((rd_T39 x4_1 0).f0), .int .i64 ((rd_T39 x4_1 0).f1), .string (⟨#[]⟩ : ByteArray)]) ?_ 2 _ rfl; (with_reducible repeat (first | refine blk_drewN ?_ _ | refine blk_drew ?_ | refine blk_alloc ?_ _)); refine blk_put (cs := #[.int .u8 ((rd_T39 x4_1 0).f0), .int .i64 0, .string (⟨#[]⟩ : ByteArray)]) ?_ 1 _ rfl; (with_reducible repeat (first | refine blk_drewN ?_ _ | refine blk_drew ?_ | refine blk_alloc ?_ _)); refine blk_put (cs := #[.int .u8 0, .int .i64 0, .string (⟨#[]⟩ : ByteArray)]) ?_ 0 _ rfl; (with_reducible repeat (first | refine blk_drewN ?_ _ | refine blk_drew ?_ | refine blk_alloc ?_ _)); exact BK1220.out) hb); have n4_ := Aside0.mk (below_step (by repeat (first | (with_reducible first | exact HB.out | apply below_alloc | apply pw_below_drewN | apply below_drew1 | refine below_set ?_ GE1212.out | refine below_set ?_ GE1213.out | refine below_set ?_ GE1220.out) | exact HB.out)) hb); have n5_ := Aside0.mk (hbox); have n6_ := Aside0.mk ((by rw [hg]; exact (below_size (by repeat (first | (with_reducible first | exact HB.out | apply below_alloc | apply pw_below_drewN | apply below_drew1 | refine below_set ?_ GE1212.out | refine below_set ?_ GE1213.out | refine below_set ?_ GE1220.out) | exact HB.out))) : w.heap.size ≤ gb1222)); have n7_ := Aside0.mk ((by rw [hg]; exact (below_size (by repeat (first | (with_reducible first | exact HB.out | apply below_alloc | apply pw_below_drewN | apply below_drew1 | refine below_set ?_ GE1212.out | refine below_set ?_ GE1213.out | refine below_set ?_ GE1220.out) | exact HB.out))) : w.heap.size ≤ gb1222)); have n8_ := Aside0.mk ((by rw [hg]; exact Nat.ne_of_lt (blk_lt (g := gb1212) (o := .cells #[.int .u8 0, .int .i64 0, .string (⟨#[]⟩ : ByteArray)] 39 (0, 0)) (by (with_reducible repeat (first | refine blk_drewN ?_ _ | refine blk_drew ?_ | refine blk_alloc ?_ _)); refine blk_far ?_ NB1212_1220.out _; (with_reducible repeat (first | refine blk_drewN ?_ _ | refine blk_drew ?_ | refine blk_alloc ?_ _)); refine blk_far ?_ NB1212_1220.out _; (with_reducible repeat (first | refine blk_drewN ?_ _ | refine blk_drew ?_ | refine blk_alloc ?_ _)); refine blk_far ?_ NB1212_1220.out _; (with_reducible repeat (first | refine blk_drewN ?_ _ | refine blk_drew ?_ | refine blk_alloc ?_ _)); exact BK1212.out)) : gb1212 ≠ gb1222)); have n9_ := Aside0.mk ((by rw [hg]; exact Nat.ne_of_gt (blk_lt (g := gb1212) (o := .cells #[.int .u8 0, .int .i64 0, .string (⟨#[]⟩ : ByteArray)] 39 (0, 0)) (by (with_reducible repeat (first | refine blk_drewN ?_ _ | refine blk_drew ?_ | refine blk_alloc ?_ _)); refine blk_far ?_ NB1212_1220.out _; (with_reducible repeat (first | refine blk_drewN ?_ _ | refine blk_drew ?_ | refine blk_alloc ?_ _)); refine blk_far ?_ NB1212_1220.out _; (with_reducible repeat (first | refine blk_drewN ?_ _ | refine blk_drew ?_ | refine blk_alloc ?_ _)); refine blk_far ?_ NB1212_1220.out _; (with_reducible repeat (first | refine blk_drewN ?_ _ | refine blk_drew ?_ | refine blk_alloc ?_ _)); exact BK1212.out)) : gb1222 ≠ gb1212)); have n10_ := Aside0.mk ((by rw [hg]; exact Nat.ne_of_lt (blk_lt (g := gb1213) (o := .cells #[.int .u8 0, .int .i64 0, .string (⟨#[]⟩ : ByteArray)] 39 (0, 0)) (by (with_reducible repeat (first | refine blk_drewN ?_ _ | refine blk_drew ?_ | refine blk_alloc ?_ _)); refine blk_far ?_ NB1213_1220.out _; (with_reducible repeat (first | refine blk_drewN ?_ _ | refine blk_drew ?_ | refine blk_alloc ?_ _)); refine blk_far ?_ NB1213_1220.out _; (with_reducible repeat (first | refine blk_drewN ?_ _ | refine blk_drew ?_ | refine blk_alloc ?_ _)); refine blk_far ?_ NB1213_1220.out _; (with_reducible repeat (first | refine blk_drewN ?_ _ | refine blk_drew ?_ | refine blk_alloc ?_ _)); exact BK1213.out)) : gb1213 ≠ gb1222)); have n11_ := Aside0.mk ((by rw [hg]; exact Nat.ne_of_gt (blk_lt (g := gb1213) (o := .cells #[.int .u8 0, .int .i64 0, .string (⟨#[]⟩ : ByteArray)] 39 (0, 0)) (by (with_reducible repeat (first | refine blk_drewN ?_ _ | refine blk_drew ?_ | refine blk_alloc ?_ _)); refine blk_far ?_ NB1213_1220.out _; (with_reducible repeat (first | refine blk_drewN ?_ _ | refine blk_drew ?_ | refine blk_alloc ?_ _)); refine blk_far ?_ NB1213_1220.out _; (with_reducible repeat (first | refine blk_drewN ?_ _ | refine blk_drew ?_ | refine blk_alloc ?_ _)); refine blk_far ?_ NB1213_1220.out _; (with_reducible repeat (first | refine blk_drewN ?_ _ | refine blk_drew ?_ | refine blk_alloc ?_ _)); exact BK1213.out)) : gb1222 ≠ gb1213)); have n12_ := Aside0.mk ((by rw [hg]; exact Nat.ne_of_lt (blk_lt (g := gb1220) (o := .cells #[.int .u8 ((rd_T39 x4_1 0).f0), .int .i64 ((rd_T39 x4_1 0).f1), .string ((rd_T39 x4_1 0).f2)] 39 (0, 0)) (by (with_reducible repeat (first | refine blk_drewN ?_ _ | refine blk_drew ?_ | refine blk_alloc ?_ _)); refine blk_put (cs := #[.int .u8 ((rd_T39 x4_1 0).f0), .int .i64 ((rd_T39 x4_1 0).f1), .string (⟨#[]⟩ : ByteArray)]) ?_ 2 _ rfl; (with_reducible repeat (first | refine blk_drewN ?_ _ | refine blk_drew ?_ | refine blk_alloc ?_ _)); refine blk_put (cs := #[.int .u8 ((rd_T39 x4_1 0).f0), .int .i64 0, .string (⟨#[]⟩ : ByteArray)]) ?_ 1 _ rfl; (with_reducible repeat (first | refine blk_drewN ?_ _ | refine blk_drew ?_ | refine blk_alloc ?_ _)); refine blk_put (cs := #[.int .u8 0, .int .i64 0, .string (⟨#[]⟩ : ByteArray)]) ?_ 0 _ rfl; (with_reducible repeat (first | refine blk_drewN ?_ _ | refine blk_drew ?_ | refine blk_alloc ?_ _)); exact BK1220.out)) : gb1220 ≠ gb1222)); have n13_ := Aside0.mk ((by rw [hg]; exact Nat.ne_of_gt (blk_lt (g := gb1220) (o := .cells #[.int .u8 ((rd_T39 x4_1 0).f0), .int .i64 ((rd_T39 x4_1 0).f1), .string ((rd_T39 x4_1 0).f2)] 39 (0, 0)) (by (with_reducible repeat (first | refine blk_drewN ?_ _ | refine blk_drew ?_ | refine blk_alloc ?_ _)); refine blk_put (cs := #[.int .u8 ((rd_T39 x4_1 0).f0), .int .i64 ((rd_T39 x4_1 0).f1), .string (⟨#[]⟩ : ByteArray)]) ?_ 2 _ rfl; (with_reducible repeat (first | refine blk_drewN ?_ _ | refine blk_drew ?_ | refine blk_alloc ?_ _)); refine blk_put (cs := #[.int .u8 ((rd_T39 x4_1 0).f0), .int .i64 0, .string (⟨#[]⟩ : ByteArray)]) ?_ 1 _ rfl; (with_reducible repeat (first | refine blk_drewN ?_ _ | refine blk_drew ?_ | refine blk_alloc ?_ _)); refine blk_put (cs := #[.int .u8 0, .int .i64 0, .string (⟨#[]⟩ : ByteArray)]) ?_ 0 _ rfl; (with_reducible repeat (first | refine blk_drewN ?_ _ | refine blk_drew ?_ | refine blk_alloc ?_ _)); exact BK1220.out)) : gb1222 ≠ gb1220)); clear HO_4; clear BK1212; clear BK1213; clear BK1220; clear HB; have HO_4 := n0_; have BK1212 := n1_; have BK1213 := n2_; have BK1220 := n3_; have HB := n4_; have BK1222 := n5_; have GW1222 := n6_; have GE1222 := n7_; have NB1212_1222 := n8_; have NB1222_1212 := n9_; have NB1213_1222 := n10_; have NB1222_1213 := n11_; have NB1220_1222 := n12_; have NB1222_1220 := n13_; clear n0_ n1_ n2_ n3_ n4_ n5_ n6_ n7_ n8_ n9_ n10_ n11_ n12_ n13_; clear hb hbox hg; have hnb21 := NB1222_1212.out; have hnc21 := NB1212_1222.out; have hnb22 := NB1222_1213.out; have hnc22 := NB1213_1222.out; have hnb23 := NB1222_1220.out; have hnc23 := NB1220_1222.out; have hcz24_0 : w20.cell? ⟨gb1222, 0, none⟩ = some (.int .u8 0) := (blk_cell BK1222.out 0).trans rfl; have hcz24_1 : w20.cell? ⟨gb1222, 1, none⟩ = some (.int .i64 0) := (blk_cell BK1222.out 1).trans rfl; have hcz24_2 : w20.cell? ⟨gb1222, 2, none⟩ = some (.string (⟨#[]⟩ : ByteArray)) := (blk_cell BK1222.out 2).trans rfl; have hfz24_0 := blk_frozen BK1222.out 0; have hfz24_1 := blk_frozen BK1222.out 1; have hfz24_2 := blk_frozen BK1222.out 2))
            go_loopg [8] k1 (fun kq v8 w' => ∃ (x8_2 : Int) (x1221000_2 : Int) (x1221001_2 : Int) (x1221002_2 : ByteArray) (x1223000_2 : Int) (x1223001_2 : Int) (x1223002_2 : ByteArray), v8 = .int .i64 x8_2 ∧ Aside0 (tidelineref06_Bounds.l1 kq x4_1 x8_2 x1221000_2 x1221001_2 x1221002_2 x1223000_2 x1223001_2 x1223002_2 = some (r1, r2, r3, r4, r5, r6)) ∧ Aside0 (kq ≤ k1) ∧ Aside0 (Kd.R k39 39 w' w.heap.size (fun k_ => k_ ≠ gb1212 ∧ k_ ≠ gb1213 ∧ k_ ≠ gb1220 ∧ k_ ≠ gb1222) (.slice (some ad1219) x4_1.length co15) x4_1) ∧ Aside0 (w'.heap[gb1212]? = some (.cells #[.int .u8 0, .int .i64 0, .string (⟨#[]⟩ : ByteArray)] 39 (0, 0))) ∧ Aside0 (w'.heap[gb1213]? = some (.cells #[.int .u8 0, .int .i64 0, .string (⟨#[]⟩ : ByteArray)] 39 (0, 0))) ∧ Aside0 (w'.heap[gb1220]? = some (.cells #[.int .u8 x1221000_2, .int .i64 x1221001_2, .string x1221002_2] 39 (0, 0))) ∧ Aside0 (w'.heap[gb1222]? = some (.cells #[.int .u8 x1223000_2, .int .i64 x1223001_2, .string x1223002_2] 39 (0, 0))) ∧ Aside0 (Below w.heap.size w w'))
            case atStart => exact ⟨(1), ((rd_T39 x4_1 0).f0), ((rd_T39 x4_1 0).f1), ((rd_T39 x4_1 0).f2), ((rd_T39 x4_1 0).f0), ((rd_T39 x4_1 0).f1), ((rd_T39 x4_1 0).f2), (by first | rfl | (simp; done) | (simp [*]; done)), H', ⟨Nat.le_refl _⟩, ⟨by (with_reducible repeat (first | apply Kd.R_alloc | apply Kd.R_drewN | apply Kd.R_drew)); exact Kd.R_mono (Kd.R_far (p := ⟨gb1222, 2, none⟩) (Kd.R_far (p := ⟨gb1222, 1, none⟩) (Kd.R_far (p := ⟨gb1222, 0, none⟩) (Kd.R_mono HO_4.out (fun k_ hk => (⟨hk, hk.2⟩ : _ ∧ k_ ≠ gb1222))) (fun _ hk => hk.2) (.int .u8 ((rd_T39 x4_1 0).f0))) (fun _ hk => hk.2) (.int .i64 ((rd_T39 x4_1 0).f1))) (fun _ hk => hk.2) (.string ((rd_T39 x4_1 0).f2))) (fun _ hk => ⟨hk.1.1.1.1, ⟨hk.1.1.1.2, ⟨hk.1.1.2, hk.1.2⟩⟩⟩)⟩, ⟨by (with_reducible repeat (first | refine blk_drewN ?_ _ | refine blk_drew ?_ | refine blk_alloc ?_ _)); refine blk_far ?_ NB1212_1222.out _; (with_reducible repeat (first | refine blk_drewN ?_ _ | refine blk_drew ?_ | refine blk_alloc ?_ _)); refine blk_far ?_ NB1212_1222.out _; (with_reducible repeat (first | refine blk_drewN ?_ _ | refine blk_drew ?_ | refine blk_alloc ?_ _)); refine blk_far ?_ NB1212_1222.out _; (with_reducible repeat (first | refine blk_drewN ?_ _ | refine blk_drew ?_ | refine blk_alloc ?_ _)); exact BK1212.out⟩, ⟨by (with_reducible repeat (first | refine blk_drewN ?_ _ | refine blk_drew ?_ | refine blk_alloc ?_ _)); refine blk_far ?_ NB1213_1222.out _; (with_reducible repeat (first | refine blk_drewN ?_ _ | refine blk_drew ?_ | refine blk_alloc ?_ _)); refine blk_far ?_ NB1213_1222.out _; (with_reducible repeat (first | refine blk_drewN ?_ _ | refine blk_drew ?_ | refine blk_alloc ?_ _)); refine blk_far ?_ NB1213_1222.out _; (with_reducible repeat (first | refine blk_drewN ?_ _ | refine blk_drew ?_ | refine blk_alloc ?_ _)); exact BK1213.out⟩, ⟨by (with_reducible repeat (first | refine blk_drewN ?_ _ | refine blk_drew ?_ | refine blk_alloc ?_ _)); refine blk_far ?_ NB1220_1222.out _; (with_reducible repeat (first | refine blk_drewN ?_ _ | refine blk_drew ?_ | refine blk_alloc ?_ _)); refine blk_far ?_ NB1220_1222.out _; (with_reducible repeat (first | refine blk_drewN ?_ _ | refine blk_drew ?_ | refine blk_alloc ?_ _)); refine blk_far ?_ NB1220_1222.out _; (with_reducible repeat (first | refine blk_drewN ?_ _ | refine blk_drew ?_ | refine blk_alloc ?_ _)); exact BK1220.out⟩, ⟨by (with_reducible repeat (first | refine blk_drewN ?_ _ | refine blk_drew ?_ | refine blk_alloc ?_ _)); refine blk_put (cs := #[.int .u8 ((rd_T39 x4_1 0).f0), .int .i64 ((rd_T39 x4_1 0).f1), .string (⟨#[]⟩ : ByteArray)]) ?_ 2 _ rfl; (with_reducible repeat (first | refine blk_drewN ?_ _ | refine blk_drew ?_ | refine blk_alloc ?_ _)); refine blk_put (cs := #[.int .u8 ((rd_T39 x4_1 0).f0), .int .i64 0, .string (⟨#[]⟩ : ByteArray)]) ?_ 1 _ rfl; (with_reducible repeat (first | refine blk_drewN ?_ _ | refine blk_drew ?_ | refine blk_alloc ?_ _)); refine blk_put (cs := #[.int .u8 0, .int .i64 0, .string (⟨#[]⟩ : ByteArray)]) ?_ 0 _ rfl; (with_reducible repeat (first | refine blk_drewN ?_ _ | refine blk_drew ?_ | refine blk_alloc ?_ _)); exact BK1222.out⟩, ⟨by repeat (first | (with_reducible first | exact HB.out | apply below_alloc | apply pw_below_drewN | apply below_drew1 | refine below_set ?_ GE1212.out | refine below_set ?_ GE1213.out | refine below_set ?_ GE1220.out | refine below_set ?_ GE1222.out) | exact HB.out)⟩⟩
            case round =>
              clear H'
              try clear c1
              try clear p1
              try clear q1
              try clear hx1
              try clear qi1
              try clear c2
              try clear p2
              try clear c4
              try clear c4b0
              try clear c5
              try clear c5b0
              try clear c6
              try clear c6b0
              try clear c6b1
              try clear p6
              try clear c7
              try clear c9
              try clear c9b0
              try clear c9b1
              try clear c9b2
              try clear c11
              try clear p12
              try clear q12
              try clear hx12
              try clear qi12
              try clear c14
              try clear c14b0
              try clear c14b1
              try clear c17
              try clear c18
              try clear c21
              try clear c22
              try clear c23
              try clear hcz12_0
              try clear hcz12_1
              try clear hcz12_2
              try clear hcz13_0
              try clear hcz13_1
              try clear hcz13_2
              try clear hcz19_0
              try clear hcz19_1
              try clear hcz19_2
              try clear hcz24_0
              try clear hcz24_1
              try clear hcz24_2
              try clear hfz12_0
              try clear hfz12_1
              try clear hfz12_2
              try clear hfz13_0
              try clear hfz13_1
              try clear hfz13_2
              try clear hfz19_0
              try clear hfz19_1
              try clear hfz19_2
              try clear hfz24_0
              try clear hfz24_1
              try clear hfz24_2
              try clear hx1214_0
              try clear hx1214_1
              try clear hx1214_2
              try clear hx1215_0
              try clear hx1215_1
              try clear hx1215_2
              try clear hx1219_0
              try clear hx1219_1
              try clear hx1219_2
              try clear hx1221_0
              try clear hx1221_1
              try clear hx1221_2
              try clear p1214
              try clear p1215
              try clear p1219
              try clear p1221
              try clear p2
              try clear q1214
              try clear q1215
              try clear q1219
              try clear q1221
              obtain ⟨x8_2, x1221000_2, x1221001_2, x1221002_2, x1223000_2, x1223001_2, x1223002_2, rfl, HA, HK2, HO_4, BK1212, BK1213, BK1220, BK1222, HB⟩ := hrel
              cases gk with
              | zero => exact absurd HA.out (by simp [tidelineref06_Bounds.l1])
              | succ k2 =>
                have H := HA.out
                clear HA
                simp only [tidelineref06_Bounds.l1] at H
                by_cases c25 : x8_2 < (x4_1.length : Int)
                · rw [if_pos c25] at H
                  have c25b0 : decide (x8_2 < (x4_1.length : Int)) = true := decide_eq_true c25
                  clear c25
                  by_cases c26 : 0 ≤ x8_2
                  · rw [if_pos c26] at H
                    have c26b0 : decide (0 ≤ x8_2) = true := decide_eq_true c26
                    clear c26
                    replace H := Option.bind_eq_some_iff.mp H
                    obtain ⟨t1224, A270, H⟩ := H
                    replace H : (if t1224 = true then ((tidelineref03_Less.f x1223000_2 x1223001_2 x1223002_2 ((rd_T39 x4_1 x8_2).f0) ((rd_T39 x4_1 x8_2).f1) ((rd_T39 x4_1 x8_2).f2)).bind fun t1227 => (if t1227 = true then (tidelineref06_Bounds.l1 k2 x4_1 (wrap64 (x8_2 + 1)) ((rd_T39 x4_1 x8_2).f0) ((rd_T39 x4_1 x8_2).f1) ((rd_T39 x4_1 x8_2).f2) ((rd_T39 x4_1 x8_2).f0) ((rd_T39 x4_1 x8_2).f1) ((rd_T39 x4_1 x8_2).f2)) else (tidelineref06_Bounds.l1 k2 x4_1 (wrap64 (x8_2 + 1)) ((rd_T39 x4_1 x8_2).f0) ((rd_T39 x4_1 x8_2).f1) ((rd_T39 x4_1 x8_2).f2) x1223000_2 x1223001_2 x1223002_2))) else ((tidelineref03_Less.f x1223000_2 x1223001_2 x1223002_2 ((rd_T39 x4_1 x8_2).f0) ((rd_T39 x4_1 x8_2).f1) ((rd_T39 x4_1 x8_2).f2)).bind fun t1230 => (if t1230 = true then (tidelineref06_Bounds.l1 k2 x4_1 (wrap64 (x8_2 + 1)) x1221000_2 x1221001_2 x1221002_2 ((rd_T39 x4_1 x8_2).f0) ((rd_T39 x4_1 x8_2).f1) ((rd_T39 x4_1 x8_2).f2)) else (tidelineref06_Bounds.l1 k2 x4_1 (wrap64 (x8_2 + 1)) x1221000_2 x1221001_2 x1221002_2 x1223000_2 x1223001_2 x1223002_2)))) = some (r1, r2, r3, r4, r5, r6) := H
                    have A27 := Aside0.mk A270
                    clear A270
                    by_cases c28 : t1224 = true
                    · subst c28
                      have H1 : ((tidelineref03_Less.f x1223000_2 x1223001_2 x1223002_2 ((rd_T39 x4_1 x8_2).f0) ((rd_T39 x4_1 x8_2).f1) ((rd_T39 x4_1 x8_2).f2)).bind fun t1227 => (if t1227 = true then (tidelineref06_Bounds.l1 k2 x4_1 (wrap64 (x8_2 + 1)) ((rd_T39 x4_1 x8_2).f0) ((rd_T39 x4_1 x8_2).f1) ((rd_T39 x4_1 x8_2).f2) ((rd_T39 x4_1 x8_2).f0) ((rd_T39 x4_1 x8_2).f1) ((rd_T39 x4_1 x8_2).f2)) else (tidelineref06_Bounds.l1 k2 x4_1 (wrap64 (x8_2 + 1)) ((rd_T39 x4_1 x8_2).f0) ((rd_T39 x4_1 x8_2).f1) ((rd_T39 x4_1 x8_2).f2) x1223000_2 x1223001_2 x1223002_2))) = some (r1, r2, r3, r4, r5, r6) := by rw [if_pos rfl] at H; exact H
                      clear H
                      have H := H1
                      clear H1
                      replace H := Option.bind_eq_some_iff.mp H
                      obtain ⟨t1227, A290, H⟩ := H
                      replace H : (if t1227 = true then (tidelineref06_Bounds.l1 k2 x4_1 (wrap64 (x8_2 + 1)) ((rd_T39 x4_1 x8_2).f0) ((rd_T39 x4_1 x8_2).f1) ((rd_T39 x4_1 x8_2).f2) ((rd_T39 x4_1 x8_2).f0) ((rd_T39 x4_1 x8_2).f1) ((rd_T39 x4_1 x8_2).f2)) else (tidelineref06_Bounds.l1 k2 x4_1 (wrap64 (x8_2 + 1)) ((rd_T39 x4_1 x8_2).f0) ((rd_T39 x4_1 x8_2).f1) ((rd_T39 x4_1 x8_2).f2) x1223000_2 x1223001_2 x1223002_2)) = some (r1, r2, r3, r4, r5, r6) := H
                      have A29 := Aside0.mk A290
                      clear A290
                      by_cases c30 : t1227 = true
                      · subst c30
                        have H1 : (tidelineref06_Bounds.l1 k2 x4_1 (wrap64 (x8_2 + 1)) ((rd_T39 x4_1 x8_2).f0) ((rd_T39 x4_1 x8_2).f1) ((rd_T39 x4_1 x8_2).f2) ((rd_T39 x4_1 x8_2).f0) ((rd_T39 x4_1 x8_2).f1) ((rd_T39 x4_1 x8_2).f2)) = some (r1, r2, r3, r4, r5, r6) := by rw [if_pos rfl] at H; exact H
                        clear H
                        have H := H1
                        clear H1
                        have H' := Aside0.mk H
                        clear H
                        try go_wp2
                        have n0_ := Aside0.mk (Kd.R_drew HO_4.out)
                        have n1_ := Aside0.mk (blk_drew BK1212.out)
                        have n2_ := Aside0.mk (blk_drew BK1213.out)
                        have n3_ := Aside0.mk (blk_drew BK1220.out)
                        have n4_ := Aside0.mk (blk_drew BK1222.out)
                        have n5_ := Aside0.mk (below_drew1 HB.out)
                        clear HO_4
                        clear BK1212
                        clear BK1213
                        clear BK1220
                        clear BK1222
                        clear HB
                        have HO_4 := n0_
                        have BK1212 := n1_
                        have BK1213 := n2_
                        have BK1220 := n3_
                        have BK1222 := n4_
                        have HB := n5_
                        clear n0_ n1_ n2_ n3_ n4_ n5_
                        have p1223 : 0 ≤ (x8_2 : Int) := of_decide_eq_true (by first | (with_reducible assumption) | assumption)
                        have q1223 : x8_2 < (x4_1.length : Int) := of_decide_eq_true (by first | (with_reducible assumption) | assumption)
                        obtain ⟨ad1223, e1223, hx1223_0, hx1223_1, hx1223_2⟩ := at_T39 (Kd.R_reads' HO_4.out).2.2 x8_2 p1223 q1223
                        obtain rfl : ad1219 = ad1223 := (by injection e1223)
                        replace p1223 := eq_true p1223
                        replace q1223 := eq_true q1223
                        refine start_ (n := 6) (S := fun w' => w'.cell? ⟨gb1220, 0, none⟩ = some (.int .u8 x1221000_2) ∧ w'.cell? ⟨gb1220, 1, none⟩ = some (.int .i64 x1221001_2) ∧ w'.cell? ⟨gb1220, 2, none⟩ = some (.string x1221002_2) ∧ w'.cell? (ad1219.add ((x8_2).toNat * 3)) = some (.int .u8 ((rd_T39 x4_1 x8_2).f0)) ∧ w'.cell? ⟨(ad1219.add ((x8_2).toNat * 3)).block, (ad1219.add ((x8_2).toNat * 3)).off + 1, none⟩ = some (.int .i64 ((rd_T39 x4_1 x8_2).f1)) ∧ w'.cell? ⟨(ad1219.add ((x8_2).toNat * 3)).block, (ad1219.add ((x8_2).toNat * 3)).off + 2, none⟩ = some (.string ((rd_T39 x4_1 x8_2).f2))) (ds := []) #[false, false, false, false, false, false] (by kernel_rfl) rfl rfl ⟨(blk_cell BK1220.out 0).trans rfl, (blk_cell BK1220.out 1).trans rfl, (blk_cell BK1220.out 2).trans rfl, hx1223_0, hx1223_1, hx1223_2⟩ (fun hHeld => ?_)
                        generalize wr.drew = w31 at HO_4 BK1212 BK1213 BK1220 BK1222 HB hx1223_0 hx1223_1 hx1223_2 hHeld ⊢
                        refine pure_ (i := 0) (N := some 45) (v := ?_) (a' := ?_) #[true, false, false, false, false, false] rfl rfl (by kernel_rfl) (fun _ _ _ h => h) (Or.inl ⟨by rfl, ?_⟩) ?_ ?_
                        rotate_left
                        · intro w'
                          go_simp
                          with_reducible rfl
                        rotate_left
                        · simp only [Act.put, List.setIfInBounds_toArray, List.set_cons_zero, List.set_cons_succ, i64_w, i32_w]
                          rfl
                        refine pure_ (i := 1) (N := some 46) (v := ?_) (a' := ?_) #[true, true, false, false, false, false] rfl rfl (by kernel_rfl) (fun _ _ _ h => h) (Or.inl ⟨by rfl, ?_⟩) ?_ ?_
                        rotate_left
                        · intro w'
                          go_simp
                          with_reducible rfl
                        rotate_left
                        · simp only [Act.put, List.setIfInBounds_toArray, List.set_cons_zero, List.set_cons_succ, i64_w, i32_w]
                          rfl
                        refine pure_ (i := 2) (N := some 47) (v := ?_) (a' := ?_) #[true, true, true, false, false, false] rfl rfl (by kernel_rfl) (fun _ _ _ h => h) (Or.inl ⟨by rfl, ?_⟩) ?_ ?_
                        rotate_left
                        · intro w'
                          go_simp
                          with_reducible rfl
                        rotate_left
                        · simp only [Act.put, List.setIfInBounds_toArray, List.set_cons_zero, List.set_cons_succ, i64_w, i32_w]
                          rfl
                        refine take_ (i := 3) (N := some 48) (v := ?_) (a' := ?_) #[true, true, true, true, false, false] rfl rfl (by kernel_rfl) (fun _ _ _ h => h) (Or.inl ⟨by rfl, ?_⟩) hHeld ?_ ?_
                        rotate_left
                        · rintro w' ⟨s0, s1, s2, s3, s4, s5⟩
                          go_simp
                          with_reducible rfl
                        rotate_left
                        · simp only [Act.put, List.setIfInBounds_toArray, List.set_cons_zero, List.set_cons_succ, i64_w, i32_w]
                          rfl
                        refine take_ (i := 4) (N := some 49) (v := ?_) (a' := ?_) #[true, true, true, true, true, false] rfl rfl (by kernel_rfl) (fun _ _ _ h => h) (Or.inl ⟨by rfl, ?_⟩) hHeld ?_ ?_
                        rotate_left
                        · rintro w' ⟨s0, s1, s2, s3, s4, s5⟩
                          go_simp
                          with_reducible rfl
                        rotate_left
                        · simp only [Act.put, List.setIfInBounds_toArray, List.set_cons_zero, List.set_cons_succ, i64_w, i32_w]
                          rfl
                        refine one_ (i := 5) (N := some 50) #[true, true, true, true, true, true] rfl rfl (by kernel_rfl) (by decide) (fun K hK => ?_)
                        refine goes_ Try.func64 (by kernel_rfl) rfl #[.agg #[.int .u8 ((rd_T39 x4_1 x8_2).f0), .int .i64 ((rd_T39 x4_1 x8_2).f1), .string ((rd_T39 x4_1 x8_2).f2)], .agg #[.int .u8 x1221000_2, .int .i64 x1221001_2, .string x1221002_2]] (by rfl) rfl rfl (by (try simp only [List.map_toArray, List.map_cons, List.map_nil]); first | done | rfl | (simp only [List.length_drop, List.length_take]; rfl)) ?_
                        with_reducible refine (tidelineref03_Less.calls ((rd_T39 x4_1 x8_2).f0) ((rd_T39 x4_1 x8_2).f1) ((rd_T39 x4_1 x8_2).f2) x1221000_2 x1221001_2 x1221002_2 true _ A27.out).mono ?_
                        rintro e w32 ⟨rfl, hb⟩
                        have HS3_ := (hb.cell (World.block_lt_of_cell? _ _ (hHeld.2.2.2.1))).trans (hHeld.2.2.2.1)
                        have HS4_ := (hb.cell (World.block_lt_of_cell? _ _ (hHeld.2.2.2.2.1))).trans (hHeld.2.2.2.2.1)
                        have HS5_ := (hb.cell (World.block_lt_of_cell? _ _ (hHeld.2.2.2.2.2))).trans (hHeld.2.2.2.2.2)
                        refine ⟨_, rfl, ?_⟩
                        have n0_ := Aside0.mk (Kd.R_below (by (with_reducible repeat (first | apply Kd.R_alloc | apply Kd.R_drewN | apply Kd.R_drew)); exact HO_4.out) hb)
                        have n1_ := Aside0.mk (blk_below (g := gb1212) (o := .cells #[.int .u8 0, .int .i64 0, .string (⟨#[]⟩ : ByteArray)] 39 (0, 0)) (by (with_reducible repeat (first | refine blk_drewN ?_ _ | refine blk_drew ?_ | refine blk_alloc ?_ _)); exact BK1212.out) hb)
                        have n2_ := Aside0.mk (blk_below (g := gb1213) (o := .cells #[.int .u8 0, .int .i64 0, .string (⟨#[]⟩ : ByteArray)] 39 (0, 0)) (by (with_reducible repeat (first | refine blk_drewN ?_ _ | refine blk_drew ?_ | refine blk_alloc ?_ _)); exact BK1213.out) hb)
                        have n3_ := Aside0.mk (blk_below (g := gb1220) (o := .cells #[.int .u8 x1221000_2, .int .i64 x1221001_2, .string x1221002_2] 39 (0, 0)) (by (with_reducible repeat (first | refine blk_drewN ?_ _ | refine blk_drew ?_ | refine blk_alloc ?_ _)); exact BK1220.out) hb)
                        have n4_ := Aside0.mk (blk_below (g := gb1222) (o := .cells #[.int .u8 x1223000_2, .int .i64 x1223001_2, .string x1223002_2] 39 (0, 0)) (by (with_reducible repeat (first | refine blk_drewN ?_ _ | refine blk_drew ?_ | refine blk_alloc ?_ _)); exact BK1222.out) hb)
                        have n5_ := Aside0.mk (below_step (by repeat (first | (with_reducible first | exact HB.out | apply below_alloc | apply pw_below_drewN | apply below_drew1 | refine below_set ?_ GE1212.out | refine below_set ?_ GE1213.out | refine below_set ?_ GE1220.out | refine below_set ?_ GE1222.out) | exact HB.out)) hb)
                        clear HO_4
                        clear BK1212
                        clear BK1213
                        clear BK1220
                        clear BK1222
                        clear HB
                        have HO_4 := n0_
                        have BK1212 := n1_
                        have BK1213 := n2_
                        have BK1220 := n3_
                        have BK1222 := n4_
                        have HB := n5_
                        clear n0_ n1_ n2_ n3_ n4_ n5_
                        (try clear hb)
                        (try clear hb2)
                        (try clear hk)
                        (try clear hi)
                        refine hK.out _ _ ⟨(blk_cell BK1220.out 0).trans rfl, (blk_cell BK1220.out 1).trans rfl, (blk_cell BK1220.out 2).trans rfl, HS3_, HS4_, HS5_⟩ (fun hHeld => ?_)
                        clear hK K
                        refine norm_ (a' := ?_) ?_ ?_
                        rotate_left
                        · show Act.put _ (some 50) _ = _
                          simp only [Act.put, List.setIfInBounds_toArray, List.set_cons_zero, List.set_cons_succ, i64_w, i32_w]
                          rfl
                        refine done_ (by kernel_rfl) ?_
                        have p1225 : 0 ≤ (x8_2 : Int) := of_decide_eq_true (by first | (with_reducible assumption) | assumption)
                        have q1225 : x8_2 < (x4_1.length : Int) := of_decide_eq_true (by first | (with_reducible assumption) | assumption)
                        obtain ⟨ad1225, e1225, hx1225_0, hx1225_1, hx1225_2⟩ := at_T39 (Kd.R_reads' HO_4.out).2.2 x8_2 p1225 q1225
                        obtain rfl : ad1219 = ad1225 := (by injection e1225)
                        replace p1225 := eq_true p1225
                        replace q1225 := eq_true q1225
                        have hnb33 := NB1220_1212.out
                        have hnc33 := NB1212_1220.out
                        have hnb34 := NB1220_1213.out
                        have hnc34 := NB1213_1220.out
                        have hnb35 := NB1220_1222.out
                        have hnc35 := NB1222_1220.out
                        have hcz36_0 : w32.cell? ⟨gb1220, 0, none⟩ = some (.int .u8 x1221000_2) := (blk_cell BK1220.out 0).trans rfl
                        have hcz36_1 : w32.cell? ⟨gb1220, 1, none⟩ = some (.int .i64 x1221001_2) := (blk_cell BK1220.out 1).trans rfl
                        have hcz36_2 : w32.cell? ⟨gb1220, 2, none⟩ = some (.string x1221002_2) := (blk_cell BK1220.out 2).trans rfl
                        have hfz36_0 := blk_frozen BK1220.out 0
                        have hfz36_1 := blk_frozen BK1220.out 1
                        have hfz36_2 := blk_frozen BK1220.out 2
                        try go_wp2
                        have n0_ : Aside0 (Kd.R k39 39 (((w32.setCell ⟨gb1220, 0, none⟩ (.int .u8 ((rd_T39 x4_1 x8_2).f0))).setCell ⟨gb1220, 1, none⟩ (.int .i64 ((rd_T39 x4_1 x8_2).f1))).setCell ⟨gb1220, 2, none⟩ (.string ((rd_T39 x4_1 x8_2).f2))) w.heap.size (fun k_ => k_ ≠ gb1212 ∧ k_ ≠ gb1213 ∧ k_ ≠ gb1220 ∧ k_ ≠ gb1222) (.slice (some ad1219) x4_1.length co15) x4_1) := ⟨by (with_reducible repeat (first | apply Kd.R_alloc | apply Kd.R_drewN | apply Kd.R_drew)); exact Kd.R_mono (Kd.R_far (p := ⟨gb1220, 2, none⟩) (Kd.R_far (p := ⟨gb1220, 1, none⟩) (Kd.R_far (p := ⟨gb1220, 0, none⟩) (Kd.R_mono HO_4.out (fun k_ hk => (⟨hk, hk.2.2.1⟩ : _ ∧ k_ ≠ gb1220))) (fun _ hk => hk.2) (.int .u8 ((rd_T39 x4_1 x8_2).f0))) (fun _ hk => hk.2) (.int .i64 ((rd_T39 x4_1 x8_2).f1))) (fun _ hk => hk.2) (.string ((rd_T39 x4_1 x8_2).f2))) (fun _ hk => ⟨hk.1.1, ⟨hk.1.2.1, ⟨hk.1.2.2.1, hk.1.2.2.2⟩⟩⟩)⟩
                        have n1_ : Aside0 ((((w32.setCell ⟨gb1220, 0, none⟩ (.int .u8 ((rd_T39 x4_1 x8_2).f0))).setCell ⟨gb1220, 1, none⟩ (.int .i64 ((rd_T39 x4_1 x8_2).f1))).setCell ⟨gb1220, 2, none⟩ (.string ((rd_T39 x4_1 x8_2).f2))).heap[gb1212]? = some (.cells #[.int .u8 0, .int .i64 0, .string (⟨#[]⟩ : ByteArray)] 39 (0, 0))) := ⟨by (with_reducible repeat (first | refine blk_drewN ?_ _ | refine blk_drew ?_ | refine blk_alloc ?_ _)); refine blk_far ?_ NB1212_1220.out _; (with_reducible repeat (first | refine blk_drewN ?_ _ | refine blk_drew ?_ | refine blk_alloc ?_ _)); refine blk_far ?_ NB1212_1220.out _; (with_reducible repeat (first | refine blk_drewN ?_ _ | refine blk_drew ?_ | refine blk_alloc ?_ _)); refine blk_far ?_ NB1212_1220.out _; (with_reducible repeat (first | refine blk_drewN ?_ _ | refine blk_drew ?_ | refine blk_alloc ?_ _)); exact BK1212.out⟩
                        have n2_ : Aside0 ((((w32.setCell ⟨gb1220, 0, none⟩ (.int .u8 ((rd_T39 x4_1 x8_2).f0))).setCell ⟨gb1220, 1, none⟩ (.int .i64 ((rd_T39 x4_1 x8_2).f1))).setCell ⟨gb1220, 2, none⟩ (.string ((rd_T39 x4_1 x8_2).f2))).heap[gb1213]? = some (.cells #[.int .u8 0, .int .i64 0, .string (⟨#[]⟩ : ByteArray)] 39 (0, 0))) := ⟨by (with_reducible repeat (first | refine blk_drewN ?_ _ | refine blk_drew ?_ | refine blk_alloc ?_ _)); refine blk_far ?_ NB1213_1220.out _; (with_reducible repeat (first | refine blk_drewN ?_ _ | refine blk_drew ?_ | refine blk_alloc ?_ _)); refine blk_far ?_ NB1213_1220.out _; (with_reducible repeat (first | refine blk_drewN ?_ _ | refine blk_drew ?_ | refine blk_alloc ?_ _)); refine blk_far ?_ NB1213_1220.out _; (with_reducible repeat (first | refine blk_drewN ?_ _ | refine blk_drew ?_ | refine blk_alloc ?_ _)); exact BK1213.out⟩
                        have n3_ : Aside0 ((((w32.setCell ⟨gb1220, 0, none⟩ (.int .u8 ((rd_T39 x4_1 x8_2).f0))).setCell ⟨gb1220, 1, none⟩ (.int .i64 ((rd_T39 x4_1 x8_2).f1))).setCell ⟨gb1220, 2, none⟩ (.string ((rd_T39 x4_1 x8_2).f2))).heap[gb1220]? = some (.cells #[.int .u8 ((rd_T39 x4_1 x8_2).f0), .int .i64 ((rd_T39 x4_1 x8_2).f1), .string ((rd_T39 x4_1 x8_2).f2)] 39 (0, 0))) := ⟨by (with_reducible repeat (first | refine blk_drewN ?_ _ | refine blk_drew ?_ | refine blk_alloc ?_ _)); refine blk_put (cs := #[.int .u8 ((rd_T39 x4_1 x8_2).f0), .int .i64 ((rd_T39 x4_1 x8_2).f1), .string x1221002_2]) ?_ 2 _ rfl; (with_reducible repeat (first | refine blk_drewN ?_ _ | refine blk_drew ?_ | refine blk_alloc ?_ _)); refine blk_put (cs := #[.int .u8 ((rd_T39 x4_1 x8_2).f0), .int .i64 x1221001_2, .string x1221002_2]) ?_ 1 _ rfl; (with_reducible repeat (first | refine blk_drewN ?_ _ | refine blk_drew ?_ | refine blk_alloc ?_ _)); refine blk_put (cs := #[.int .u8 x1221000_2, .int .i64 x1221001_2, .string x1221002_2]) ?_ 0 _ rfl; (with_reducible repeat (first | refine blk_drewN ?_ _ | refine blk_drew ?_ | refine blk_alloc ?_ _)); exact BK1220.out⟩
                        have n4_ : Aside0 ((((w32.setCell ⟨gb1220, 0, none⟩ (.int .u8 ((rd_T39 x4_1 x8_2).f0))).setCell ⟨gb1220, 1, none⟩ (.int .i64 ((rd_T39 x4_1 x8_2).f1))).setCell ⟨gb1220, 2, none⟩ (.string ((rd_T39 x4_1 x8_2).f2))).heap[gb1222]? = some (.cells #[.int .u8 x1223000_2, .int .i64 x1223001_2, .string x1223002_2] 39 (0, 0))) := ⟨by (with_reducible repeat (first | refine blk_drewN ?_ _ | refine blk_drew ?_ | refine blk_alloc ?_ _)); refine blk_far ?_ NB1222_1220.out _; (with_reducible repeat (first | refine blk_drewN ?_ _ | refine blk_drew ?_ | refine blk_alloc ?_ _)); refine blk_far ?_ NB1222_1220.out _; (with_reducible repeat (first | refine blk_drewN ?_ _ | refine blk_drew ?_ | refine blk_alloc ?_ _)); refine blk_far ?_ NB1222_1220.out _; (with_reducible repeat (first | refine blk_drewN ?_ _ | refine blk_drew ?_ | refine blk_alloc ?_ _)); exact BK1222.out⟩
                        have n5_ : Aside0 (Below w.heap.size w (((w32.setCell ⟨gb1220, 0, none⟩ (.int .u8 ((rd_T39 x4_1 x8_2).f0))).setCell ⟨gb1220, 1, none⟩ (.int .i64 ((rd_T39 x4_1 x8_2).f1))).setCell ⟨gb1220, 2, none⟩ (.string ((rd_T39 x4_1 x8_2).f2)))) := ⟨by repeat (first | (with_reducible first | exact HB.out | apply below_alloc | apply pw_below_drewN | apply below_drew1 | refine below_set ?_ GE1212.out | refine below_set ?_ GE1213.out | refine below_set ?_ GE1220.out | refine below_set ?_ GE1222.out) | exact HB.out)⟩
                        (try clear HO_4)
                        (try clear BK1212)
                        (try clear BK1213)
                        (try clear BK1220)
                        (try clear BK1222)
                        (try clear HB)
                        generalize (((w32.setCell ⟨gb1220, 0, none⟩ (.int .u8 ((rd_T39 x4_1 x8_2).f0))).setCell ⟨gb1220, 1, none⟩ (.int .i64 ((rd_T39 x4_1 x8_2).f1))).setCell ⟨gb1220, 2, none⟩ (.string ((rd_T39 x4_1 x8_2).f2))) = w37 at n0_ n1_ n2_ n3_ n4_ n5_ ⊢
                        have HO_4 := n0_
                        have BK1212 := n1_
                        have BK1213 := n2_
                        have BK1220 := n3_
                        have BK1222 := n4_
                        have HB := n5_
                        clear n0_ n1_ n2_ n3_ n4_ n5_
                        have n0_ := Aside0.mk (Kd.R_drew HO_4.out)
                        have n1_ := Aside0.mk (blk_drew BK1212.out)
                        have n2_ := Aside0.mk (blk_drew BK1213.out)
                        have n3_ := Aside0.mk (blk_drew BK1220.out)
                        have n4_ := Aside0.mk (blk_drew BK1222.out)
                        have n5_ := Aside0.mk (below_drew1 HB.out)
                        clear HO_4
                        clear BK1212
                        clear BK1213
                        clear BK1220
                        clear BK1222
                        clear HB
                        have HO_4 := n0_
                        have BK1212 := n1_
                        have BK1213 := n2_
                        have BK1220 := n3_
                        have BK1222 := n4_
                        have HB := n5_
                        clear n0_ n1_ n2_ n3_ n4_ n5_
                        have p1226 : 0 ≤ (x8_2 : Int) := of_decide_eq_true (by first | (with_reducible assumption) | assumption)
                        have q1226 : x8_2 < (x4_1.length : Int) := of_decide_eq_true (by first | (with_reducible assumption) | assumption)
                        obtain ⟨ad1226, e1226, hx1226_0, hx1226_1, hx1226_2⟩ := at_T39 (Kd.R_reads' HO_4.out).2.2 x8_2 p1226 q1226
                        obtain rfl : ad1219 = ad1226 := (by injection e1226)
                        replace p1226 := eq_true p1226
                        replace q1226 := eq_true q1226
                        refine start_ (n := 6) (S := fun w' => w'.cell? ⟨gb1222, 0, none⟩ = some (.int .u8 x1223000_2) ∧ w'.cell? ⟨gb1222, 1, none⟩ = some (.int .i64 x1223001_2) ∧ w'.cell? ⟨gb1222, 2, none⟩ = some (.string x1223002_2) ∧ w'.cell? (ad1219.add ((x8_2).toNat * 3)) = some (.int .u8 ((rd_T39 x4_1 x8_2).f0)) ∧ w'.cell? ⟨(ad1219.add ((x8_2).toNat * 3)).block, (ad1219.add ((x8_2).toNat * 3)).off + 1, none⟩ = some (.int .i64 ((rd_T39 x4_1 x8_2).f1)) ∧ w'.cell? ⟨(ad1219.add ((x8_2).toNat * 3)).block, (ad1219.add ((x8_2).toNat * 3)).off + 2, none⟩ = some (.string ((rd_T39 x4_1 x8_2).f2))) (ds := []) #[false, false, false, false, false, false] (by kernel_rfl) rfl rfl ⟨(blk_cell BK1222.out 0).trans rfl, (blk_cell BK1222.out 1).trans rfl, (blk_cell BK1222.out 2).trans rfl, hx1226_0, hx1226_1, hx1226_2⟩ (fun hHeld => ?_)
                        generalize w37.drew = w38 at HO_4 BK1212 BK1213 BK1220 BK1222 HB hx1226_0 hx1226_1 hx1226_2 hHeld ⊢
                        refine pure_ (i := 1) (N := some 56) (v := ?_) (a' := ?_) #[false, true, false, false, false, false] rfl rfl (by kernel_rfl) (fun _ _ _ h => h) (Or.inl ⟨by rfl, ?_⟩) ?_ ?_
                        rotate_left
                        · intro w'
                          go_simp
                          with_reducible rfl
                        rotate_left
                        · simp only [Act.put, List.setIfInBounds_toArray, List.set_cons_zero, List.set_cons_succ, i64_w, i32_w]
                          rfl
                        refine pure_ (i := 2) (N := some 57) (v := ?_) (a' := ?_) #[false, true, true, false, false, false] rfl rfl (by kernel_rfl) (fun _ _ _ h => h) (Or.inl ⟨by rfl, ?_⟩) ?_ ?_
                        rotate_left
                        · intro w'
                          go_simp
                          with_reducible rfl
                        rotate_left
                        · simp only [Act.put, List.setIfInBounds_toArray, List.set_cons_zero, List.set_cons_succ, i64_w, i32_w]
                          rfl
                        refine pure_ (i := 3) (N := some 58) (v := ?_) (a' := ?_) #[false, true, true, true, false, false] rfl rfl (by kernel_rfl) (fun _ _ _ h => h) (Or.inl ⟨by rfl, ?_⟩) ?_ ?_
                        rotate_left
                        · intro w'
                          go_simp
                          with_reducible rfl
                        rotate_left
                        · simp only [Act.put, List.setIfInBounds_toArray, List.set_cons_zero, List.set_cons_succ, i64_w, i32_w]
                          rfl
                        refine take_ (i := 0) (N := some 55) (v := ?_) (a' := ?_) #[true, true, true, true, false, false] rfl rfl (by kernel_rfl) (fun _ _ _ h => h) (Or.inl ⟨by rfl, ?_⟩) hHeld ?_ ?_
                        rotate_left
                        · rintro w' ⟨s0, s1, s2, s3, s4, s5⟩
                          go_simp
                          with_reducible rfl
                        rotate_left
                        · simp only [Act.put, List.setIfInBounds_toArray, List.set_cons_zero, List.set_cons_succ, i64_w, i32_w]
                          rfl
                        refine take_ (i := 4) (N := some 59) (v := ?_) (a' := ?_) #[true, true, true, true, true, false] rfl rfl (by kernel_rfl) (fun _ _ _ h => h) (Or.inl ⟨by rfl, ?_⟩) hHeld ?_ ?_
                        rotate_left
                        · rintro w' ⟨s0, s1, s2, s3, s4, s5⟩
                          go_simp
                          with_reducible rfl
                        rotate_left
                        · simp only [Act.put, List.setIfInBounds_toArray, List.set_cons_zero, List.set_cons_succ, i64_w, i32_w]
                          rfl
                        refine one_ (i := 5) (N := some 60) #[true, true, true, true, true, true] rfl rfl (by kernel_rfl) (by decide) (fun K hK => ?_)
                        refine goes_ Try.func64 (by kernel_rfl) rfl #[.agg #[.int .u8 x1223000_2, .int .i64 x1223001_2, .string x1223002_2], .agg #[.int .u8 ((rd_T39 x4_1 x8_2).f0), .int .i64 ((rd_T39 x4_1 x8_2).f1), .string ((rd_T39 x4_1 x8_2).f2)]] (by rfl) rfl rfl (by (try simp only [List.map_toArray, List.map_cons, List.map_nil]); first | done | rfl | (simp only [List.length_drop, List.length_take]; rfl)) ?_
                        with_reducible refine (tidelineref03_Less.calls x1223000_2 x1223001_2 x1223002_2 ((rd_T39 x4_1 x8_2).f0) ((rd_T39 x4_1 x8_2).f1) ((rd_T39 x4_1 x8_2).f2) true _ A29.out).mono ?_
                        rintro e w39 ⟨rfl, hb⟩
                        have HS3_ := (hb.cell (World.block_lt_of_cell? _ _ (hHeld.2.2.2.1))).trans (hHeld.2.2.2.1)
                        have HS4_ := (hb.cell (World.block_lt_of_cell? _ _ (hHeld.2.2.2.2.1))).trans (hHeld.2.2.2.2.1)
                        have HS5_ := (hb.cell (World.block_lt_of_cell? _ _ (hHeld.2.2.2.2.2))).trans (hHeld.2.2.2.2.2)
                        refine ⟨_, rfl, ?_⟩
                        have n0_ := Aside0.mk (Kd.R_below (by (with_reducible repeat (first | apply Kd.R_alloc | apply Kd.R_drewN | apply Kd.R_drew)); exact HO_4.out) hb)
                        have n1_ := Aside0.mk (blk_below (g := gb1212) (o := .cells #[.int .u8 0, .int .i64 0, .string (⟨#[]⟩ : ByteArray)] 39 (0, 0)) (by (with_reducible repeat (first | refine blk_drewN ?_ _ | refine blk_drew ?_ | refine blk_alloc ?_ _)); exact BK1212.out) hb)
                        have n2_ := Aside0.mk (blk_below (g := gb1213) (o := .cells #[.int .u8 0, .int .i64 0, .string (⟨#[]⟩ : ByteArray)] 39 (0, 0)) (by (with_reducible repeat (first | refine blk_drewN ?_ _ | refine blk_drew ?_ | refine blk_alloc ?_ _)); exact BK1213.out) hb)
                        have n3_ := Aside0.mk (blk_below (g := gb1220) (o := .cells #[.int .u8 ((rd_T39 x4_1 x8_2).f0), .int .i64 ((rd_T39 x4_1 x8_2).f1), .string ((rd_T39 x4_1 x8_2).f2)] 39 (0, 0)) (by (with_reducible repeat (first | refine blk_drewN ?_ _ | refine blk_drew ?_ | refine blk_alloc ?_ _)); exact BK1220.out) hb)
                        have n4_ := Aside0.mk (blk_below (g := gb1222) (o := .cells #[.int .u8 x1223000_2, .int .i64 x1223001_2, .string x1223002_2] 39 (0, 0)) (by (with_reducible repeat (first | refine blk_drewN ?_ _ | refine blk_drew ?_ | refine blk_alloc ?_ _)); exact BK1222.out) hb)
                        have n5_ := Aside0.mk (below_step (by repeat (first | (with_reducible first | exact HB.out | apply below_alloc | apply pw_below_drewN | apply below_drew1 | refine below_set ?_ GE1212.out | refine below_set ?_ GE1213.out | refine below_set ?_ GE1220.out | refine below_set ?_ GE1222.out) | exact HB.out)) hb)
                        clear HO_4
                        clear BK1212
                        clear BK1213
                        clear BK1220
                        clear BK1222
                        clear HB
                        have HO_4 := n0_
                        have BK1212 := n1_
                        have BK1213 := n2_
                        have BK1220 := n3_
                        have BK1222 := n4_
                        have HB := n5_
                        clear n0_ n1_ n2_ n3_ n4_ n5_
                        (try clear hb)
                        (try clear hb2)
                        (try clear hk)
                        (try clear hi)
                        refine hK.out _ _ ⟨(blk_cell BK1222.out 0).trans rfl, (blk_cell BK1222.out 1).trans rfl, (blk_cell BK1222.out 2).trans rfl, HS3_, HS4_, HS5_⟩ (fun hHeld => ?_)
                        clear hK K
                        refine norm_ (a' := ?_) ?_ ?_
                        rotate_left
                        · show Act.put _ (some 60) _ = _
                          simp only [Act.put, List.setIfInBounds_toArray, List.set_cons_zero, List.set_cons_succ, i64_w, i32_w]
                          rfl
                        refine done_ (by kernel_rfl) ?_
                        have p1228 : 0 ≤ (x8_2 : Int) := of_decide_eq_true (by first | (with_reducible assumption) | assumption)
                        have q1228 : x8_2 < (x4_1.length : Int) := of_decide_eq_true (by first | (with_reducible assumption) | assumption)
                        obtain ⟨ad1228, e1228, hx1228_0, hx1228_1, hx1228_2⟩ := at_T39 (Kd.R_reads' HO_4.out).2.2 x8_2 p1228 q1228
                        obtain rfl : ad1219 = ad1228 := (by injection e1228)
                        replace p1228 := eq_true p1228
                        replace q1228 := eq_true q1228
                        have hnb40 := NB1222_1212.out
                        have hnc40 := NB1212_1222.out
                        have hnb41 := NB1222_1213.out
                        have hnc41 := NB1213_1222.out
                        have hcz42_0 : w39.cell? ⟨gb1222, 0, none⟩ = some (.int .u8 x1223000_2) := (blk_cell BK1222.out 0).trans rfl
                        have hcz42_1 : w39.cell? ⟨gb1222, 1, none⟩ = some (.int .i64 x1223001_2) := (blk_cell BK1222.out 1).trans rfl
                        have hcz42_2 : w39.cell? ⟨gb1222, 2, none⟩ = some (.string x1223002_2) := (blk_cell BK1222.out 2).trans rfl
                        have hfz42_0 := blk_frozen BK1222.out 0
                        have hfz42_1 := blk_frozen BK1222.out 1
                        have hfz42_2 := blk_frozen BK1222.out 2
                        try go_wp2
                        go_roundg k2
                        case measure => have := HK1.out; have := HK2.out; omega
                        case rel => exact ⟨(wrap64 (x8_2 + 1)), ((rd_T39 x4_1 x8_2).f0), ((rd_T39 x4_1 x8_2).f1), ((rd_T39 x4_1 x8_2).f2), ((rd_T39 x4_1 x8_2).f0), ((rd_T39 x4_1 x8_2).f1), ((rd_T39 x4_1 x8_2).f2), (by first | rfl | (simp; done) | (simp [*]; done)), H', ⟨by have := HK1.out; have := HK2.out; omega⟩, ⟨by (with_reducible repeat (first | apply Kd.R_alloc | apply Kd.R_drewN | apply Kd.R_drew)); exact Kd.R_mono (Kd.R_far (p := ⟨gb1222, 2, none⟩) (Kd.R_far (p := ⟨gb1222, 1, none⟩) (Kd.R_far (p := ⟨gb1222, 0, none⟩) (Kd.R_mono HO_4.out (fun k_ hk => (⟨hk, hk.2.2.2⟩ : _ ∧ k_ ≠ gb1222))) (fun _ hk => hk.2) (.int .u8 ((rd_T39 x4_1 x8_2).f0))) (fun _ hk => hk.2) (.int .i64 ((rd_T39 x4_1 x8_2).f1))) (fun _ hk => hk.2) (.string ((rd_T39 x4_1 x8_2).f2))) (fun _ hk => ⟨hk.1.1, ⟨hk.1.2.1, ⟨hk.1.2.2.1, hk.1.2.2.2⟩⟩⟩)⟩, ⟨by (with_reducible repeat (first | refine blk_drewN ?_ _ | refine blk_drew ?_ | refine blk_alloc ?_ _)); refine blk_far ?_ NB1212_1222.out _; (with_reducible repeat (first | refine blk_drewN ?_ _ | refine blk_drew ?_ | refine blk_alloc ?_ _)); refine blk_far ?_ NB1212_1222.out _; (with_reducible repeat (first | refine blk_drewN ?_ _ | refine blk_drew ?_ | refine blk_alloc ?_ _)); refine blk_far ?_ NB1212_1222.out _; (with_reducible repeat (first | refine blk_drewN ?_ _ | refine blk_drew ?_ | refine blk_alloc ?_ _)); exact BK1212.out⟩, ⟨by (with_reducible repeat (first | refine blk_drewN ?_ _ | refine blk_drew ?_ | refine blk_alloc ?_ _)); refine blk_far ?_ NB1213_1222.out _; (with_reducible repeat (first | refine blk_drewN ?_ _ | refine blk_drew ?_ | refine blk_alloc ?_ _)); refine blk_far ?_ NB1213_1222.out _; (with_reducible repeat (first | refine blk_drewN ?_ _ | refine blk_drew ?_ | refine blk_alloc ?_ _)); refine blk_far ?_ NB1213_1222.out _; (with_reducible repeat (first | refine blk_drewN ?_ _ | refine blk_drew ?_ | refine blk_alloc ?_ _)); exact BK1213.out⟩, ⟨by (with_reducible repeat (first | refine blk_drewN ?_ _ | refine blk_drew ?_ | refine blk_alloc ?_ _)); refine blk_far ?_ NB1220_1222.out _; (with_reducible repeat (first | refine blk_drewN ?_ _ | refine blk_drew ?_ | refine blk_alloc ?_ _)); refine blk_far ?_ NB1220_1222.out _; (with_reducible repeat (first | refine blk_drewN ?_ _ | refine blk_drew ?_ | refine blk_alloc ?_ _)); refine blk_far ?_ NB1220_1222.out _; (with_reducible repeat (first | refine blk_drewN ?_ _ | refine blk_drew ?_ | refine blk_alloc ?_ _)); exact BK1220.out⟩, ⟨by (with_reducible repeat (first | refine blk_drewN ?_ _ | refine blk_drew ?_ | refine blk_alloc ?_ _)); refine blk_put (cs := #[.int .u8 ((rd_T39 x4_1 x8_2).f0), .int .i64 ((rd_T39 x4_1 x8_2).f1), .string x1223002_2]) ?_ 2 _ rfl; (with_reducible repeat (first | refine blk_drewN ?_ _ | refine blk_drew ?_ | refine blk_alloc ?_ _)); refine blk_put (cs := #[.int .u8 ((rd_T39 x4_1 x8_2).f0), .int .i64 x1223001_2, .string x1223002_2]) ?_ 1 _ rfl; (with_reducible repeat (first | refine blk_drewN ?_ _ | refine blk_drew ?_ | refine blk_alloc ?_ _)); refine blk_put (cs := #[.int .u8 x1223000_2, .int .i64 x1223001_2, .string x1223002_2]) ?_ 0 _ rfl; (with_reducible repeat (first | refine blk_drewN ?_ _ | refine blk_drew ?_ | refine blk_alloc ?_ _)); exact BK1222.out⟩, ⟨by repeat (first | (with_reducible first | exact HB.out | apply below_alloc | apply pw_below_drewN | apply below_drew1 | refine below_set ?_ GE1212.out | refine below_set ?_ GE1213.out | refine below_set ?_ GE1220.out | refine below_set ?_ GE1222.out) | exact HB.out)⟩⟩
                      · replace c30 := Bool.eq_false_iff.mpr c30
                        subst c30
                        have H1 : (tidelineref06_Bounds.l1 k2 x4_1 (wrap64 (x8_2 + 1)) ((rd_T39 x4_1 x8_2).f0) ((rd_T39 x4_1 x8_2).f1) ((rd_T39 x4_1 x8_2).f2) x1223000_2 x1223001_2 x1223002_2) = some (r1, r2, r3, r4, r5, r6) := by rw [if_neg (show ¬ (false = true) by decide)] at H; exact H
                        clear H
                        have H := H1
                        clear H1
                        have H' := Aside0.mk H
                        clear H
                        try go_wp2
                        have n0_ := Aside0.mk (Kd.R_drew HO_4.out)
                        have n1_ := Aside0.mk (blk_drew BK1212.out)
                        have n2_ := Aside0.mk (blk_drew BK1213.out)
                        have n3_ := Aside0.mk (blk_drew BK1220.out)
                        have n4_ := Aside0.mk (blk_drew BK1222.out)
                        have n5_ := Aside0.mk (below_drew1 HB.out)
                        clear HO_4
                        clear BK1212
                        clear BK1213
                        clear BK1220
                        clear BK1222
                        clear HB
                        have HO_4 := n0_
                        have BK1212 := n1_
                        have BK1213 := n2_
                        have BK1220 := n3_
                        have BK1222 := n4_
                        have HB := n5_
                        clear n0_ n1_ n2_ n3_ n4_ n5_
                        have p1223 : 0 ≤ (x8_2 : Int) := of_decide_eq_true (by first | (with_reducible assumption) | assumption)
                        have q1223 : x8_2 < (x4_1.length : Int) := of_decide_eq_true (by first | (with_reducible assumption) | assumption)
                        obtain ⟨ad1223, e1223, hx1223_0, hx1223_1, hx1223_2⟩ := at_T39 (Kd.R_reads' HO_4.out).2.2 x8_2 p1223 q1223
                        obtain rfl : ad1219 = ad1223 := (by injection e1223)
                        replace p1223 := eq_true p1223
                        replace q1223 := eq_true q1223
                        refine start_ (n := 6) (S := fun w' => w'.cell? ⟨gb1220, 0, none⟩ = some (.int .u8 x1221000_2) ∧ w'.cell? ⟨gb1220, 1, none⟩ = some (.int .i64 x1221001_2) ∧ w'.cell? ⟨gb1220, 2, none⟩ = some (.string x1221002_2) ∧ w'.cell? (ad1219.add ((x8_2).toNat * 3)) = some (.int .u8 ((rd_T39 x4_1 x8_2).f0)) ∧ w'.cell? ⟨(ad1219.add ((x8_2).toNat * 3)).block, (ad1219.add ((x8_2).toNat * 3)).off + 1, none⟩ = some (.int .i64 ((rd_T39 x4_1 x8_2).f1)) ∧ w'.cell? ⟨(ad1219.add ((x8_2).toNat * 3)).block, (ad1219.add ((x8_2).toNat * 3)).off + 2, none⟩ = some (.string ((rd_T39 x4_1 x8_2).f2))) (ds := []) #[false, false, false, false, false, false] (by kernel_rfl) rfl rfl ⟨(blk_cell BK1220.out 0).trans rfl, (blk_cell BK1220.out 1).trans rfl, (blk_cell BK1220.out 2).trans rfl, hx1223_0, hx1223_1, hx1223_2⟩ (fun hHeld => ?_)
                        generalize wr.drew = w43 at HO_4 BK1212 BK1213 BK1220 BK1222 HB hx1223_0 hx1223_1 hx1223_2 hHeld ⊢
                        refine pure_ (i := 0) (N := some 45) (v := ?_) (a' := ?_) #[true, false, false, false, false, false] rfl rfl (by kernel_rfl) (fun _ _ _ h => h) (Or.inl ⟨by rfl, ?_⟩) ?_ ?_
                        rotate_left
                        · intro w'
                          go_simp
                          with_reducible rfl
                        rotate_left
                        · simp only [Act.put, List.setIfInBounds_toArray, List.set_cons_zero, List.set_cons_succ, i64_w, i32_w]
                          rfl
                        refine pure_ (i := 1) (N := some 46) (v := ?_) (a' := ?_) #[true, true, false, false, false, false] rfl rfl (by kernel_rfl) (fun _ _ _ h => h) (Or.inl ⟨by rfl, ?_⟩) ?_ ?_
                        rotate_left
                        · intro w'
                          go_simp
                          with_reducible rfl
                        rotate_left
                        · simp only [Act.put, List.setIfInBounds_toArray, List.set_cons_zero, List.set_cons_succ, i64_w, i32_w]
                          rfl
                        refine pure_ (i := 2) (N := some 47) (v := ?_) (a' := ?_) #[true, true, true, false, false, false] rfl rfl (by kernel_rfl) (fun _ _ _ h => h) (Or.inl ⟨by rfl, ?_⟩) ?_ ?_
                        rotate_left
                        · intro w'
                          go_simp
                          with_reducible rfl
                        rotate_left
                        · simp only [Act.put, List.setIfInBounds_toArray, List.set_cons_zero, List.set_cons_succ, i64_w, i32_w]
                          rfl
                        refine take_ (i := 3) (N := some 48) (v := ?_) (a' := ?_) #[true, true, true, true, false, false] rfl rfl (by kernel_rfl) (fun _ _ _ h => h) (Or.inl ⟨by rfl, ?_⟩) hHeld ?_ ?_
                        rotate_left
                        · rintro w' ⟨s0, s1, s2, s3, s4, s5⟩
                          go_simp
                          with_reducible rfl
                        rotate_left
                        · simp only [Act.put, List.setIfInBounds_toArray, List.set_cons_zero, List.set_cons_succ, i64_w, i32_w]
                          rfl
                        refine take_ (i := 4) (N := some 49) (v := ?_) (a' := ?_) #[true, true, true, true, true, false] rfl rfl (by kernel_rfl) (fun _ _ _ h => h) (Or.inl ⟨by rfl, ?_⟩) hHeld ?_ ?_
                        rotate_left
                        · rintro w' ⟨s0, s1, s2, s3, s4, s5⟩
                          go_simp
                          with_reducible rfl
                        rotate_left
                        · simp only [Act.put, List.setIfInBounds_toArray, List.set_cons_zero, List.set_cons_succ, i64_w, i32_w]
                          rfl
                        refine one_ (i := 5) (N := some 50) #[true, true, true, true, true, true] rfl rfl (by kernel_rfl) (by decide) (fun K hK => ?_)
                        refine goes_ Try.func64 (by kernel_rfl) rfl #[.agg #[.int .u8 ((rd_T39 x4_1 x8_2).f0), .int .i64 ((rd_T39 x4_1 x8_2).f1), .string ((rd_T39 x4_1 x8_2).f2)], .agg #[.int .u8 x1221000_2, .int .i64 x1221001_2, .string x1221002_2]] (by rfl) rfl rfl (by (try simp only [List.map_toArray, List.map_cons, List.map_nil]); first | done | rfl | (simp only [List.length_drop, List.length_take]; rfl)) ?_
                        with_reducible refine (tidelineref03_Less.calls ((rd_T39 x4_1 x8_2).f0) ((rd_T39 x4_1 x8_2).f1) ((rd_T39 x4_1 x8_2).f2) x1221000_2 x1221001_2 x1221002_2 true _ A27.out).mono ?_
                        rintro e w44 ⟨rfl, hb⟩
                        have HS3_ := (hb.cell (World.block_lt_of_cell? _ _ (hHeld.2.2.2.1))).trans (hHeld.2.2.2.1)
                        have HS4_ := (hb.cell (World.block_lt_of_cell? _ _ (hHeld.2.2.2.2.1))).trans (hHeld.2.2.2.2.1)
                        have HS5_ := (hb.cell (World.block_lt_of_cell? _ _ (hHeld.2.2.2.2.2))).trans (hHeld.2.2.2.2.2)
                        refine ⟨_, rfl, ?_⟩
                        have n0_ := Aside0.mk (Kd.R_below (by (with_reducible repeat (first | apply Kd.R_alloc | apply Kd.R_drewN | apply Kd.R_drew)); exact HO_4.out) hb)
                        have n1_ := Aside0.mk (blk_below (g := gb1212) (o := .cells #[.int .u8 0, .int .i64 0, .string (⟨#[]⟩ : ByteArray)] 39 (0, 0)) (by (with_reducible repeat (first | refine blk_drewN ?_ _ | refine blk_drew ?_ | refine blk_alloc ?_ _)); exact BK1212.out) hb)
                        have n2_ := Aside0.mk (blk_below (g := gb1213) (o := .cells #[.int .u8 0, .int .i64 0, .string (⟨#[]⟩ : ByteArray)] 39 (0, 0)) (by (with_reducible repeat (first | refine blk_drewN ?_ _ | refine blk_drew ?_ | refine blk_alloc ?_ _)); exact BK1213.out) hb)
                        have n3_ := Aside0.mk (blk_below (g := gb1220) (o := .cells #[.int .u8 x1221000_2, .int .i64 x1221001_2, .string x1221002_2] 39 (0, 0)) (by (with_reducible repeat (first | refine blk_drewN ?_ _ | refine blk_drew ?_ | refine blk_alloc ?_ _)); exact BK1220.out) hb)
                        have n4_ := Aside0.mk (blk_below (g := gb1222) (o := .cells #[.int .u8 x1223000_2, .int .i64 x1223001_2, .string x1223002_2] 39 (0, 0)) (by (with_reducible repeat (first | refine blk_drewN ?_ _ | refine blk_drew ?_ | refine blk_alloc ?_ _)); exact BK1222.out) hb)
                        have n5_ := Aside0.mk (below_step (by repeat (first | (with_reducible first | exact HB.out | apply below_alloc | apply pw_below_drewN | apply below_drew1 | refine below_set ?_ GE1212.out | refine below_set ?_ GE1213.out | refine below_set ?_ GE1220.out | refine below_set ?_ GE1222.out) | exact HB.out)) hb)
                        clear HO_4
                        clear BK1212
                        clear BK1213
                        clear BK1220
                        clear BK1222
                        clear HB
                        have HO_4 := n0_
                        have BK1212 := n1_
                        have BK1213 := n2_
                        have BK1220 := n3_
                        have BK1222 := n4_
                        have HB := n5_
                        clear n0_ n1_ n2_ n3_ n4_ n5_
                        (try clear hb)
                        (try clear hb2)
                        (try clear hk)
                        (try clear hi)
                        refine hK.out _ _ ⟨(blk_cell BK1220.out 0).trans rfl, (blk_cell BK1220.out 1).trans rfl, (blk_cell BK1220.out 2).trans rfl, HS3_, HS4_, HS5_⟩ (fun hHeld => ?_)
                        clear hK K
                        refine norm_ (a' := ?_) ?_ ?_
                        rotate_left
                        · show Act.put _ (some 50) _ = _
                          simp only [Act.put, List.setIfInBounds_toArray, List.set_cons_zero, List.set_cons_succ, i64_w, i32_w]
                          rfl
                        refine done_ (by kernel_rfl) ?_
                        have p1225 : 0 ≤ (x8_2 : Int) := of_decide_eq_true (by first | (with_reducible assumption) | assumption)
                        have q1225 : x8_2 < (x4_1.length : Int) := of_decide_eq_true (by first | (with_reducible assumption) | assumption)
                        obtain ⟨ad1225, e1225, hx1225_0, hx1225_1, hx1225_2⟩ := at_T39 (Kd.R_reads' HO_4.out).2.2 x8_2 p1225 q1225
                        obtain rfl : ad1219 = ad1225 := (by injection e1225)
                        replace p1225 := eq_true p1225
                        replace q1225 := eq_true q1225
                        have hnb45 := NB1220_1212.out
                        have hnc45 := NB1212_1220.out
                        have hnb46 := NB1220_1213.out
                        have hnc46 := NB1213_1220.out
                        have hnb47 := NB1220_1222.out
                        have hnc47 := NB1222_1220.out
                        have hcz48_0 : w44.cell? ⟨gb1220, 0, none⟩ = some (.int .u8 x1221000_2) := (blk_cell BK1220.out 0).trans rfl
                        have hcz48_1 : w44.cell? ⟨gb1220, 1, none⟩ = some (.int .i64 x1221001_2) := (blk_cell BK1220.out 1).trans rfl
                        have hcz48_2 : w44.cell? ⟨gb1220, 2, none⟩ = some (.string x1221002_2) := (blk_cell BK1220.out 2).trans rfl
                        have hfz48_0 := blk_frozen BK1220.out 0
                        have hfz48_1 := blk_frozen BK1220.out 1
                        have hfz48_2 := blk_frozen BK1220.out 2
                        try go_wp2
                        have n0_ : Aside0 (Kd.R k39 39 (((w44.setCell ⟨gb1220, 0, none⟩ (.int .u8 ((rd_T39 x4_1 x8_2).f0))).setCell ⟨gb1220, 1, none⟩ (.int .i64 ((rd_T39 x4_1 x8_2).f1))).setCell ⟨gb1220, 2, none⟩ (.string ((rd_T39 x4_1 x8_2).f2))) w.heap.size (fun k_ => k_ ≠ gb1212 ∧ k_ ≠ gb1213 ∧ k_ ≠ gb1220 ∧ k_ ≠ gb1222) (.slice (some ad1219) x4_1.length co15) x4_1) := ⟨by (with_reducible repeat (first | apply Kd.R_alloc | apply Kd.R_drewN | apply Kd.R_drew)); exact Kd.R_mono (Kd.R_far (p := ⟨gb1220, 2, none⟩) (Kd.R_far (p := ⟨gb1220, 1, none⟩) (Kd.R_far (p := ⟨gb1220, 0, none⟩) (Kd.R_mono HO_4.out (fun k_ hk => (⟨hk, hk.2.2.1⟩ : _ ∧ k_ ≠ gb1220))) (fun _ hk => hk.2) (.int .u8 ((rd_T39 x4_1 x8_2).f0))) (fun _ hk => hk.2) (.int .i64 ((rd_T39 x4_1 x8_2).f1))) (fun _ hk => hk.2) (.string ((rd_T39 x4_1 x8_2).f2))) (fun _ hk => ⟨hk.1.1, ⟨hk.1.2.1, ⟨hk.1.2.2.1, hk.1.2.2.2⟩⟩⟩)⟩
                        have n1_ : Aside0 ((((w44.setCell ⟨gb1220, 0, none⟩ (.int .u8 ((rd_T39 x4_1 x8_2).f0))).setCell ⟨gb1220, 1, none⟩ (.int .i64 ((rd_T39 x4_1 x8_2).f1))).setCell ⟨gb1220, 2, none⟩ (.string ((rd_T39 x4_1 x8_2).f2))).heap[gb1212]? = some (.cells #[.int .u8 0, .int .i64 0, .string (⟨#[]⟩ : ByteArray)] 39 (0, 0))) := ⟨by (with_reducible repeat (first | refine blk_drewN ?_ _ | refine blk_drew ?_ | refine blk_alloc ?_ _)); refine blk_far ?_ NB1212_1220.out _; (with_reducible repeat (first | refine blk_drewN ?_ _ | refine blk_drew ?_ | refine blk_alloc ?_ _)); refine blk_far ?_ NB1212_1220.out _; (with_reducible repeat (first | refine blk_drewN ?_ _ | refine blk_drew ?_ | refine blk_alloc ?_ _)); refine blk_far ?_ NB1212_1220.out _; (with_reducible repeat (first | refine blk_drewN ?_ _ | refine blk_drew ?_ | refine blk_alloc ?_ _)); exact BK1212.out⟩
                        have n2_ : Aside0 ((((w44.setCell ⟨gb1220, 0, none⟩ (.int .u8 ((rd_T39 x4_1 x8_2).f0))).setCell ⟨gb1220, 1, none⟩ (.int .i64 ((rd_T39 x4_1 x8_2).f1))).setCell ⟨gb1220, 2, none⟩ (.string ((rd_T39 x4_1 x8_2).f2))).heap[gb1213]? = some (.cells #[.int .u8 0, .int .i64 0, .string (⟨#[]⟩ : ByteArray)] 39 (0, 0))) := ⟨by (with_reducible repeat (first | refine blk_drewN ?_ _ | refine blk_drew ?_ | refine blk_alloc ?_ _)); refine blk_far ?_ NB1213_1220.out _; (with_reducible repeat (first | refine blk_drewN ?_ _ | refine blk_drew ?_ | refine blk_alloc ?_ _)); refine blk_far ?_ NB1213_1220.out _; (with_reducible repeat (first | refine blk_drewN ?_ _ | refine blk_drew ?_ | refine blk_alloc ?_ _)); refine blk_far ?_ NB1213_1220.out _; (with_reducible repeat (first | refine blk_drewN ?_ _ | refine blk_drew ?_ | refine blk_alloc ?_ _)); exact BK1213.out⟩
                        have n3_ : Aside0 ((((w44.setCell ⟨gb1220, 0, none⟩ (.int .u8 ((rd_T39 x4_1 x8_2).f0))).setCell ⟨gb1220, 1, none⟩ (.int .i64 ((rd_T39 x4_1 x8_2).f1))).setCell ⟨gb1220, 2, none⟩ (.string ((rd_T39 x4_1 x8_2).f2))).heap[gb1220]? = some (.cells #[.int .u8 ((rd_T39 x4_1 x8_2).f0), .int .i64 ((rd_T39 x4_1 x8_2).f1), .string ((rd_T39 x4_1 x8_2).f2)] 39 (0, 0))) := ⟨by (with_reducible repeat (first | refine blk_drewN ?_ _ | refine blk_drew ?_ | refine blk_alloc ?_ _)); refine blk_put (cs := #[.int .u8 ((rd_T39 x4_1 x8_2).f0), .int .i64 ((rd_T39 x4_1 x8_2).f1), .string x1221002_2]) ?_ 2 _ rfl; (with_reducible repeat (first | refine blk_drewN ?_ _ | refine blk_drew ?_ | refine blk_alloc ?_ _)); refine blk_put (cs := #[.int .u8 ((rd_T39 x4_1 x8_2).f0), .int .i64 x1221001_2, .string x1221002_2]) ?_ 1 _ rfl; (with_reducible repeat (first | refine blk_drewN ?_ _ | refine blk_drew ?_ | refine blk_alloc ?_ _)); refine blk_put (cs := #[.int .u8 x1221000_2, .int .i64 x1221001_2, .string x1221002_2]) ?_ 0 _ rfl; (with_reducible repeat (first | refine blk_drewN ?_ _ | refine blk_drew ?_ | refine blk_alloc ?_ _)); exact BK1220.out⟩
                        have n4_ : Aside0 ((((w44.setCell ⟨gb1220, 0, none⟩ (.int .u8 ((rd_T39 x4_1 x8_2).f0))).setCell ⟨gb1220, 1, none⟩ (.int .i64 ((rd_T39 x4_1 x8_2).f1))).setCell ⟨gb1220, 2, none⟩ (.string ((rd_T39 x4_1 x8_2).f2))).heap[gb1222]? = some (.cells #[.int .u8 x1223000_2, .int .i64 x1223001_2, .string x1223002_2] 39 (0, 0))) := ⟨by (with_reducible repeat (first | refine blk_drewN ?_ _ | refine blk_drew ?_ | refine blk_alloc ?_ _)); refine blk_far ?_ NB1222_1220.out _; (with_reducible repeat (first | refine blk_drewN ?_ _ | refine blk_drew ?_ | refine blk_alloc ?_ _)); refine blk_far ?_ NB1222_1220.out _; (with_reducible repeat (first | refine blk_drewN ?_ _ | refine blk_drew ?_ | refine blk_alloc ?_ _)); refine blk_far ?_ NB1222_1220.out _; (with_reducible repeat (first | refine blk_drewN ?_ _ | refine blk_drew ?_ | refine blk_alloc ?_ _)); exact BK1222.out⟩
                        have n5_ : Aside0 (Below w.heap.size w (((w44.setCell ⟨gb1220, 0, none⟩ (.int .u8 ((rd_T39 x4_1 x8_2).f0))).setCell ⟨gb1220, 1, none⟩ (.int .i64 ((rd_T39 x4_1 x8_2).f1))).setCell ⟨gb1220, 2, none⟩ (.string ((rd_T39 x4_1 x8_2).f2)))) := ⟨by repeat (first | (with_reducible first | exact HB.out | apply below_alloc | apply pw_below_drewN | apply below_drew1 | refine below_set ?_ GE1212.out | refine below_set ?_ GE1213.out | refine below_set ?_ GE1220.out | refine below_set ?_ GE1222.out) | exact HB.out)⟩
                        (try clear HO_4)
                        (try clear BK1212)
                        (try clear BK1213)
                        (try clear BK1220)
                        (try clear BK1222)
                        (try clear HB)
                        generalize (((w44.setCell ⟨gb1220, 0, none⟩ (.int .u8 ((rd_T39 x4_1 x8_2).f0))).setCell ⟨gb1220, 1, none⟩ (.int .i64 ((rd_T39 x4_1 x8_2).f1))).setCell ⟨gb1220, 2, none⟩ (.string ((rd_T39 x4_1 x8_2).f2))) = w49 at n0_ n1_ n2_ n3_ n4_ n5_ ⊢
                        have HO_4 := n0_
                        have BK1212 := n1_
                        have BK1213 := n2_
                        have BK1220 := n3_
                        have BK1222 := n4_
                        have HB := n5_
                        clear n0_ n1_ n2_ n3_ n4_ n5_
                        have n0_ := Aside0.mk (Kd.R_drew HO_4.out)
                        have n1_ := Aside0.mk (blk_drew BK1212.out)
                        have n2_ := Aside0.mk (blk_drew BK1213.out)
                        have n3_ := Aside0.mk (blk_drew BK1220.out)
                        have n4_ := Aside0.mk (blk_drew BK1222.out)
                        have n5_ := Aside0.mk (below_drew1 HB.out)
                        clear HO_4
                        clear BK1212
                        clear BK1213
                        clear BK1220
                        clear BK1222
                        clear HB
                        have HO_4 := n0_
                        have BK1212 := n1_
                        have BK1213 := n2_
                        have BK1220 := n3_
                        have BK1222 := n4_
                        have HB := n5_
                        clear n0_ n1_ n2_ n3_ n4_ n5_
                        have p1226 : 0 ≤ (x8_2 : Int) := of_decide_eq_true (by first | (with_reducible assumption) | assumption)
                        have q1226 : x8_2 < (x4_1.length : Int) := of_decide_eq_true (by first | (with_reducible assumption) | assumption)
                        obtain ⟨ad1226, e1226, hx1226_0, hx1226_1, hx1226_2⟩ := at_T39 (Kd.R_reads' HO_4.out).2.2 x8_2 p1226 q1226
                        obtain rfl : ad1219 = ad1226 := (by injection e1226)
                        replace p1226 := eq_true p1226
                        replace q1226 := eq_true q1226
                        refine start_ (n := 6) (S := fun w' => w'.cell? ⟨gb1222, 0, none⟩ = some (.int .u8 x1223000_2) ∧ w'.cell? ⟨gb1222, 1, none⟩ = some (.int .i64 x1223001_2) ∧ w'.cell? ⟨gb1222, 2, none⟩ = some (.string x1223002_2) ∧ w'.cell? (ad1219.add ((x8_2).toNat * 3)) = some (.int .u8 ((rd_T39 x4_1 x8_2).f0)) ∧ w'.cell? ⟨(ad1219.add ((x8_2).toNat * 3)).block, (ad1219.add ((x8_2).toNat * 3)).off + 1, none⟩ = some (.int .i64 ((rd_T39 x4_1 x8_2).f1)) ∧ w'.cell? ⟨(ad1219.add ((x8_2).toNat * 3)).block, (ad1219.add ((x8_2).toNat * 3)).off + 2, none⟩ = some (.string ((rd_T39 x4_1 x8_2).f2))) (ds := []) #[false, false, false, false, false, false] (by kernel_rfl) rfl rfl ⟨(blk_cell BK1222.out 0).trans rfl, (blk_cell BK1222.out 1).trans rfl, (blk_cell BK1222.out 2).trans rfl, hx1226_0, hx1226_1, hx1226_2⟩ (fun hHeld => ?_)
                        generalize w49.drew = w50 at HO_4 BK1212 BK1213 BK1220 BK1222 HB hx1226_0 hx1226_1 hx1226_2 hHeld ⊢
                        refine pure_ (i := 1) (N := some 56) (v := ?_) (a' := ?_) #[false, true, false, false, false, false] rfl rfl (by kernel_rfl) (fun _ _ _ h => h) (Or.inl ⟨by rfl, ?_⟩) ?_ ?_
                        rotate_left
                        · intro w'
                          go_simp
                          with_reducible rfl
                        rotate_left
                        · simp only [Act.put, List.setIfInBounds_toArray, List.set_cons_zero, List.set_cons_succ, i64_w, i32_w]
                          rfl
                        refine pure_ (i := 2) (N := some 57) (v := ?_) (a' := ?_) #[false, true, true, false, false, false] rfl rfl (by kernel_rfl) (fun _ _ _ h => h) (Or.inl ⟨by rfl, ?_⟩) ?_ ?_
                        rotate_left
                        · intro w'
                          go_simp
                          with_reducible rfl
                        rotate_left
                        · simp only [Act.put, List.setIfInBounds_toArray, List.set_cons_zero, List.set_cons_succ, i64_w, i32_w]
                          rfl
                        refine pure_ (i := 3) (N := some 58) (v := ?_) (a' := ?_) #[false, true, true, true, false, false] rfl rfl (by kernel_rfl) (fun _ _ _ h => h) (Or.inl ⟨by rfl, ?_⟩) ?_ ?_
                        rotate_left
                        · intro w'
                          go_simp
                          with_reducible rfl
                        rotate_left
                        · simp only [Act.put, List.setIfInBounds_toArray, List.set_cons_zero, List.set_cons_succ, i64_w, i32_w]
                          rfl
                        refine take_ (i := 0) (N := some 55) (v := ?_) (a' := ?_) #[true, true, true, true, false, false] rfl rfl (by kernel_rfl) (fun _ _ _ h => h) (Or.inl ⟨by rfl, ?_⟩) hHeld ?_ ?_
                        rotate_left
                        · rintro w' ⟨s0, s1, s2, s3, s4, s5⟩
                          go_simp
                          with_reducible rfl
                        rotate_left
                        · simp only [Act.put, List.setIfInBounds_toArray, List.set_cons_zero, List.set_cons_succ, i64_w, i32_w]
                          rfl
                        refine take_ (i := 4) (N := some 59) (v := ?_) (a' := ?_) #[true, true, true, true, true, false] rfl rfl (by kernel_rfl) (fun _ _ _ h => h) (Or.inl ⟨by rfl, ?_⟩) hHeld ?_ ?_
                        rotate_left
                        · rintro w' ⟨s0, s1, s2, s3, s4, s5⟩
                          go_simp
                          with_reducible rfl
                        rotate_left
                        · simp only [Act.put, List.setIfInBounds_toArray, List.set_cons_zero, List.set_cons_succ, i64_w, i32_w]
                          rfl
                        refine one_ (i := 5) (N := some 60) #[true, true, true, true, true, true] rfl rfl (by kernel_rfl) (by decide) (fun K hK => ?_)
                        refine goes_ Try.func64 (by kernel_rfl) rfl #[.agg #[.int .u8 x1223000_2, .int .i64 x1223001_2, .string x1223002_2], .agg #[.int .u8 ((rd_T39 x4_1 x8_2).f0), .int .i64 ((rd_T39 x4_1 x8_2).f1), .string ((rd_T39 x4_1 x8_2).f2)]] (by rfl) rfl rfl (by (try simp only [List.map_toArray, List.map_cons, List.map_nil]); first | done | rfl | (simp only [List.length_drop, List.length_take]; rfl)) ?_
                        with_reducible refine (tidelineref03_Less.calls x1223000_2 x1223001_2 x1223002_2 ((rd_T39 x4_1 x8_2).f0) ((rd_T39 x4_1 x8_2).f1) ((rd_T39 x4_1 x8_2).f2) false _ A29.out).mono ?_
                        rintro e w51 ⟨rfl, hb⟩
                        have HS3_ := (hb.cell (World.block_lt_of_cell? _ _ (hHeld.2.2.2.1))).trans (hHeld.2.2.2.1)
                        have HS4_ := (hb.cell (World.block_lt_of_cell? _ _ (hHeld.2.2.2.2.1))).trans (hHeld.2.2.2.2.1)
                        have HS5_ := (hb.cell (World.block_lt_of_cell? _ _ (hHeld.2.2.2.2.2))).trans (hHeld.2.2.2.2.2)
                        refine ⟨_, rfl, ?_⟩
                        have n0_ := Aside0.mk (Kd.R_below (by (with_reducible repeat (first | apply Kd.R_alloc | apply Kd.R_drewN | apply Kd.R_drew)); exact HO_4.out) hb)
                        have n1_ := Aside0.mk (blk_below (g := gb1212) (o := .cells #[.int .u8 0, .int .i64 0, .string (⟨#[]⟩ : ByteArray)] 39 (0, 0)) (by (with_reducible repeat (first | refine blk_drewN ?_ _ | refine blk_drew ?_ | refine blk_alloc ?_ _)); exact BK1212.out) hb)
                        have n2_ := Aside0.mk (blk_below (g := gb1213) (o := .cells #[.int .u8 0, .int .i64 0, .string (⟨#[]⟩ : ByteArray)] 39 (0, 0)) (by (with_reducible repeat (first | refine blk_drewN ?_ _ | refine blk_drew ?_ | refine blk_alloc ?_ _)); exact BK1213.out) hb)
                        have n3_ := Aside0.mk (blk_below (g := gb1220) (o := .cells #[.int .u8 ((rd_T39 x4_1 x8_2).f0), .int .i64 ((rd_T39 x4_1 x8_2).f1), .string ((rd_T39 x4_1 x8_2).f2)] 39 (0, 0)) (by (with_reducible repeat (first | refine blk_drewN ?_ _ | refine blk_drew ?_ | refine blk_alloc ?_ _)); exact BK1220.out) hb)
                        have n4_ := Aside0.mk (blk_below (g := gb1222) (o := .cells #[.int .u8 x1223000_2, .int .i64 x1223001_2, .string x1223002_2] 39 (0, 0)) (by (with_reducible repeat (first | refine blk_drewN ?_ _ | refine blk_drew ?_ | refine blk_alloc ?_ _)); exact BK1222.out) hb)
                        have n5_ := Aside0.mk (below_step (by repeat (first | (with_reducible first | exact HB.out | apply below_alloc | apply pw_below_drewN | apply below_drew1 | refine below_set ?_ GE1212.out | refine below_set ?_ GE1213.out | refine below_set ?_ GE1220.out | refine below_set ?_ GE1222.out) | exact HB.out)) hb)
                        clear HO_4
                        clear BK1212
                        clear BK1213
                        clear BK1220
                        clear BK1222
                        clear HB
                        have HO_4 := n0_
                        have BK1212 := n1_
                        have BK1213 := n2_
                        have BK1220 := n3_
                        have BK1222 := n4_
                        have HB := n5_
                        clear n0_ n1_ n2_ n3_ n4_ n5_
                        (try clear hb)
                        (try clear hb2)
                        (try clear hk)
                        (try clear hi)
                        refine hK.out _ _ ⟨(blk_cell BK1222.out 0).trans rfl, (blk_cell BK1222.out 1).trans rfl, (blk_cell BK1222.out 2).trans rfl, HS3_, HS4_, HS5_⟩ (fun hHeld => ?_)
                        clear hK K
                        refine norm_ (a' := ?_) ?_ ?_
                        rotate_left
                        · show Act.put _ (some 60) _ = _
                          simp only [Act.put, List.setIfInBounds_toArray, List.set_cons_zero, List.set_cons_succ, i64_w, i32_w]
                          rfl
                        refine done_ (by kernel_rfl) ?_
                        try go_wp2
                        go_roundg k2
                        case measure => have := HK1.out; have := HK2.out; omega
                        case rel => exact ⟨(wrap64 (x8_2 + 1)), ((rd_T39 x4_1 x8_2).f0), ((rd_T39 x4_1 x8_2).f1), ((rd_T39 x4_1 x8_2).f2), (x1223000_2), (x1223001_2), (x1223002_2), (by first | rfl | (simp; done) | (simp [*]; done)), H', ⟨by have := HK1.out; have := HK2.out; omega⟩, ⟨by (with_reducible repeat (first | apply Kd.R_alloc | apply Kd.R_drewN | apply Kd.R_drew)); exact HO_4.out⟩, ⟨by (with_reducible repeat (first | refine blk_drewN ?_ _ | refine blk_drew ?_ | refine blk_alloc ?_ _)); exact BK1212.out⟩, ⟨by (with_reducible repeat (first | refine blk_drewN ?_ _ | refine blk_drew ?_ | refine blk_alloc ?_ _)); exact BK1213.out⟩, ⟨by (with_reducible repeat (first | refine blk_drewN ?_ _ | refine blk_drew ?_ | refine blk_alloc ?_ _)); exact BK1220.out⟩, ⟨by (with_reducible repeat (first | refine blk_drewN ?_ _ | refine blk_drew ?_ | refine blk_alloc ?_ _)); exact BK1222.out⟩, ⟨by repeat (first | (with_reducible first | exact HB.out | apply below_alloc | apply pw_below_drewN | apply below_drew1 | refine below_set ?_ GE1212.out | refine below_set ?_ GE1213.out | refine below_set ?_ GE1220.out | refine below_set ?_ GE1222.out) | exact HB.out)⟩⟩
                    · replace c28 := Bool.eq_false_iff.mpr c28
                      subst c28
                      have H1 : ((tidelineref03_Less.f x1223000_2 x1223001_2 x1223002_2 ((rd_T39 x4_1 x8_2).f0) ((rd_T39 x4_1 x8_2).f1) ((rd_T39 x4_1 x8_2).f2)).bind fun t1230 => (if t1230 = true then (tidelineref06_Bounds.l1 k2 x4_1 (wrap64 (x8_2 + 1)) x1221000_2 x1221001_2 x1221002_2 ((rd_T39 x4_1 x8_2).f0) ((rd_T39 x4_1 x8_2).f1) ((rd_T39 x4_1 x8_2).f2)) else (tidelineref06_Bounds.l1 k2 x4_1 (wrap64 (x8_2 + 1)) x1221000_2 x1221001_2 x1221002_2 x1223000_2 x1223001_2 x1223002_2))) = some (r1, r2, r3, r4, r5, r6) := by rw [if_neg (show ¬ (false = true) by decide)] at H; exact H
                      clear H
                      have H := H1
                      clear H1
                      replace H := Option.bind_eq_some_iff.mp H
                      obtain ⟨t1230, A520, H⟩ := H
                      replace H : (if t1230 = true then (tidelineref06_Bounds.l1 k2 x4_1 (wrap64 (x8_2 + 1)) x1221000_2 x1221001_2 x1221002_2 ((rd_T39 x4_1 x8_2).f0) ((rd_T39 x4_1 x8_2).f1) ((rd_T39 x4_1 x8_2).f2)) else (tidelineref06_Bounds.l1 k2 x4_1 (wrap64 (x8_2 + 1)) x1221000_2 x1221001_2 x1221002_2 x1223000_2 x1223001_2 x1223002_2)) = some (r1, r2, r3, r4, r5, r6) := H
                      have A52 := Aside0.mk A520
                      clear A520
                      by_cases c53 : t1230 = true
                      · subst c53
                        have H1 : (tidelineref06_Bounds.l1 k2 x4_1 (wrap64 (x8_2 + 1)) x1221000_2 x1221001_2 x1221002_2 ((rd_T39 x4_1 x8_2).f0) ((rd_T39 x4_1 x8_2).f1) ((rd_T39 x4_1 x8_2).f2)) = some (r1, r2, r3, r4, r5, r6) := by rw [if_pos rfl] at H; exact H
                        clear H
                        have H := H1
                        clear H1
                        have H' := Aside0.mk H
                        clear H
                        try go_wp2
                        have n0_ := Aside0.mk (Kd.R_drew HO_4.out)
                        have n1_ := Aside0.mk (blk_drew BK1212.out)
                        have n2_ := Aside0.mk (blk_drew BK1213.out)
                        have n3_ := Aside0.mk (blk_drew BK1220.out)
                        have n4_ := Aside0.mk (blk_drew BK1222.out)
                        have n5_ := Aside0.mk (below_drew1 HB.out)
                        clear HO_4
                        clear BK1212
                        clear BK1213
                        clear BK1220
                        clear BK1222
                        clear HB
                        have HO_4 := n0_
                        have BK1212 := n1_
                        have BK1213 := n2_
                        have BK1220 := n3_
                        have BK1222 := n4_
                        have HB := n5_
                        clear n0_ n1_ n2_ n3_ n4_ n5_
                        have p1223 : 0 ≤ (x8_2 : Int) := of_decide_eq_true (by first | (with_reducible assumption) | assumption)
                        have q1223 : x8_2 < (x4_1.length : Int) := of_decide_eq_true (by first | (with_reducible assumption) | assumption)
                        obtain ⟨ad1223, e1223, hx1223_0, hx1223_1, hx1223_2⟩ := at_T39 (Kd.R_reads' HO_4.out).2.2 x8_2 p1223 q1223
                        obtain rfl : ad1219 = ad1223 := (by injection e1223)
                        replace p1223 := eq_true p1223
                        replace q1223 := eq_true q1223
                        refine start_ (n := 6) (S := fun w' => w'.cell? ⟨gb1220, 0, none⟩ = some (.int .u8 x1221000_2) ∧ w'.cell? ⟨gb1220, 1, none⟩ = some (.int .i64 x1221001_2) ∧ w'.cell? ⟨gb1220, 2, none⟩ = some (.string x1221002_2) ∧ w'.cell? (ad1219.add ((x8_2).toNat * 3)) = some (.int .u8 ((rd_T39 x4_1 x8_2).f0)) ∧ w'.cell? ⟨(ad1219.add ((x8_2).toNat * 3)).block, (ad1219.add ((x8_2).toNat * 3)).off + 1, none⟩ = some (.int .i64 ((rd_T39 x4_1 x8_2).f1)) ∧ w'.cell? ⟨(ad1219.add ((x8_2).toNat * 3)).block, (ad1219.add ((x8_2).toNat * 3)).off + 2, none⟩ = some (.string ((rd_T39 x4_1 x8_2).f2))) (ds := []) #[false, false, false, false, false, false] (by kernel_rfl) rfl rfl ⟨(blk_cell BK1220.out 0).trans rfl, (blk_cell BK1220.out 1).trans rfl, (blk_cell BK1220.out 2).trans rfl, hx1223_0, hx1223_1, hx1223_2⟩ (fun hHeld => ?_)
                        generalize wr.drew = w54 at HO_4 BK1212 BK1213 BK1220 BK1222 HB hx1223_0 hx1223_1 hx1223_2 hHeld ⊢
                        refine pure_ (i := 0) (N := some 45) (v := ?_) (a' := ?_) #[true, false, false, false, false, false] rfl rfl (by kernel_rfl) (fun _ _ _ h => h) (Or.inl ⟨by rfl, ?_⟩) ?_ ?_
                        rotate_left
                        · intro w'
                          go_simp
                          with_reducible rfl
                        rotate_left
                        · simp only [Act.put, List.setIfInBounds_toArray, List.set_cons_zero, List.set_cons_succ, i64_w, i32_w]
                          rfl
                        refine pure_ (i := 1) (N := some 46) (v := ?_) (a' := ?_) #[true, true, false, false, false, false] rfl rfl (by kernel_rfl) (fun _ _ _ h => h) (Or.inl ⟨by rfl, ?_⟩) ?_ ?_
                        rotate_left
                        · intro w'
                          go_simp
                          with_reducible rfl
                        rotate_left
                        · simp only [Act.put, List.setIfInBounds_toArray, List.set_cons_zero, List.set_cons_succ, i64_w, i32_w]
                          rfl
                        refine pure_ (i := 2) (N := some 47) (v := ?_) (a' := ?_) #[true, true, true, false, false, false] rfl rfl (by kernel_rfl) (fun _ _ _ h => h) (Or.inl ⟨by rfl, ?_⟩) ?_ ?_
                        rotate_left
                        · intro w'
                          go_simp
                          with_reducible rfl
                        rotate_left
                        · simp only [Act.put, List.setIfInBounds_toArray, List.set_cons_zero, List.set_cons_succ, i64_w, i32_w]
                          rfl
                        refine take_ (i := 3) (N := some 48) (v := ?_) (a' := ?_) #[true, true, true, true, false, false] rfl rfl (by kernel_rfl) (fun _ _ _ h => h) (Or.inl ⟨by rfl, ?_⟩) hHeld ?_ ?_
                        rotate_left
                        · rintro w' ⟨s0, s1, s2, s3, s4, s5⟩
                          go_simp
                          with_reducible rfl
                        rotate_left
                        · simp only [Act.put, List.setIfInBounds_toArray, List.set_cons_zero, List.set_cons_succ, i64_w, i32_w]
                          rfl
                        refine take_ (i := 4) (N := some 49) (v := ?_) (a' := ?_) #[true, true, true, true, true, false] rfl rfl (by kernel_rfl) (fun _ _ _ h => h) (Or.inl ⟨by rfl, ?_⟩) hHeld ?_ ?_
                        rotate_left
                        · rintro w' ⟨s0, s1, s2, s3, s4, s5⟩
                          go_simp
                          with_reducible rfl
                        rotate_left
                        · simp only [Act.put, List.setIfInBounds_toArray, List.set_cons_zero, List.set_cons_succ, i64_w, i32_w]
                          rfl
                        refine one_ (i := 5) (N := some 50) #[true, true, true, true, true, true] rfl rfl (by kernel_rfl) (by decide) (fun K hK => ?_)
                        refine goes_ Try.func64 (by kernel_rfl) rfl #[.agg #[.int .u8 ((rd_T39 x4_1 x8_2).f0), .int .i64 ((rd_T39 x4_1 x8_2).f1), .string ((rd_T39 x4_1 x8_2).f2)], .agg #[.int .u8 x1221000_2, .int .i64 x1221001_2, .string x1221002_2]] (by rfl) rfl rfl (by (try simp only [List.map_toArray, List.map_cons, List.map_nil]); first | done | rfl | (simp only [List.length_drop, List.length_take]; rfl)) ?_
                        with_reducible refine (tidelineref03_Less.calls ((rd_T39 x4_1 x8_2).f0) ((rd_T39 x4_1 x8_2).f1) ((rd_T39 x4_1 x8_2).f2) x1221000_2 x1221001_2 x1221002_2 false _ A27.out).mono ?_
                        rintro e w55 ⟨rfl, hb⟩
                        have HS3_ := (hb.cell (World.block_lt_of_cell? _ _ (hHeld.2.2.2.1))).trans (hHeld.2.2.2.1)
                        have HS4_ := (hb.cell (World.block_lt_of_cell? _ _ (hHeld.2.2.2.2.1))).trans (hHeld.2.2.2.2.1)
                        have HS5_ := (hb.cell (World.block_lt_of_cell? _ _ (hHeld.2.2.2.2.2))).trans (hHeld.2.2.2.2.2)
                        refine ⟨_, rfl, ?_⟩
                        have n0_ := Aside0.mk (Kd.R_below (by (with_reducible repeat (first | apply Kd.R_alloc | apply Kd.R_drewN | apply Kd.R_drew)); exact HO_4.out) hb)
                        have n1_ := Aside0.mk (blk_below (g := gb1212) (o := .cells #[.int .u8 0, .int .i64 0, .string (⟨#[]⟩ : ByteArray)] 39 (0, 0)) (by (with_reducible repeat (first | refine blk_drewN ?_ _ | refine blk_drew ?_ | refine blk_alloc ?_ _)); exact BK1212.out) hb)
                        have n2_ := Aside0.mk (blk_below (g := gb1213) (o := .cells #[.int .u8 0, .int .i64 0, .string (⟨#[]⟩ : ByteArray)] 39 (0, 0)) (by (with_reducible repeat (first | refine blk_drewN ?_ _ | refine blk_drew ?_ | refine blk_alloc ?_ _)); exact BK1213.out) hb)
                        have n3_ := Aside0.mk (blk_below (g := gb1220) (o := .cells #[.int .u8 x1221000_2, .int .i64 x1221001_2, .string x1221002_2] 39 (0, 0)) (by (with_reducible repeat (first | refine blk_drewN ?_ _ | refine blk_drew ?_ | refine blk_alloc ?_ _)); exact BK1220.out) hb)
                        have n4_ := Aside0.mk (blk_below (g := gb1222) (o := .cells #[.int .u8 x1223000_2, .int .i64 x1223001_2, .string x1223002_2] 39 (0, 0)) (by (with_reducible repeat (first | refine blk_drewN ?_ _ | refine blk_drew ?_ | refine blk_alloc ?_ _)); exact BK1222.out) hb)
                        have n5_ := Aside0.mk (below_step (by repeat (first | (with_reducible first | exact HB.out | apply below_alloc | apply pw_below_drewN | apply below_drew1 | refine below_set ?_ GE1212.out | refine below_set ?_ GE1213.out | refine below_set ?_ GE1220.out | refine below_set ?_ GE1222.out) | exact HB.out)) hb)
                        clear HO_4
                        clear BK1212
                        clear BK1213
                        clear BK1220
                        clear BK1222
                        clear HB
                        have HO_4 := n0_
                        have BK1212 := n1_
                        have BK1213 := n2_
                        have BK1220 := n3_
                        have BK1222 := n4_
                        have HB := n5_
                        clear n0_ n1_ n2_ n3_ n4_ n5_
                        (try clear hb)
                        (try clear hb2)
                        (try clear hk)
                        (try clear hi)
                        refine hK.out _ _ ⟨(blk_cell BK1220.out 0).trans rfl, (blk_cell BK1220.out 1).trans rfl, (blk_cell BK1220.out 2).trans rfl, HS3_, HS4_, HS5_⟩ (fun hHeld => ?_)
                        clear hK K
                        refine norm_ (a' := ?_) ?_ ?_
                        rotate_left
                        · show Act.put _ (some 50) _ = _
                          simp only [Act.put, List.setIfInBounds_toArray, List.set_cons_zero, List.set_cons_succ, i64_w, i32_w]
                          rfl
                        refine done_ (by kernel_rfl) ?_
                        try go_wp2
                        have n0_ := Aside0.mk (Kd.R_drew HO_4.out)
                        have n1_ := Aside0.mk (blk_drew BK1212.out)
                        have n2_ := Aside0.mk (blk_drew BK1213.out)
                        have n3_ := Aside0.mk (blk_drew BK1220.out)
                        have n4_ := Aside0.mk (blk_drew BK1222.out)
                        have n5_ := Aside0.mk (below_drew1 HB.out)
                        clear HO_4
                        clear BK1212
                        clear BK1213
                        clear BK1220
                        clear BK1222
                        clear HB
                        have HO_4 := n0_
                        have BK1212 := n1_
                        have BK1213 := n2_
                        have BK1220 := n3_
                        have BK1222 := n4_
                        have HB := n5_
                        clear n0_ n1_ n2_ n3_ n4_ n5_
                        have p1229 : 0 ≤ (x8_2 : Int) := of_decide_eq_true (by first | (with_reducible assumption) | assumption)
                        have q1229 : x8_2 < (x4_1.length : Int) := of_decide_eq_true (by first | (with_reducible assumption) | assumption)
                        obtain ⟨ad1229, e1229, hx1229_0, hx1229_1, hx1229_2⟩ := at_T39 (Kd.R_reads' HO_4.out).2.2 x8_2 p1229 q1229
                        obtain rfl : ad1219 = ad1229 := (by injection e1229)
                        replace p1229 := eq_true p1229
                        replace q1229 := eq_true q1229
                        refine start_ (n := 6) (S := fun w' => w'.cell? ⟨gb1222, 0, none⟩ = some (.int .u8 x1223000_2) ∧ w'.cell? ⟨gb1222, 1, none⟩ = some (.int .i64 x1223001_2) ∧ w'.cell? ⟨gb1222, 2, none⟩ = some (.string x1223002_2) ∧ w'.cell? (ad1219.add ((x8_2).toNat * 3)) = some (.int .u8 ((rd_T39 x4_1 x8_2).f0)) ∧ w'.cell? ⟨(ad1219.add ((x8_2).toNat * 3)).block, (ad1219.add ((x8_2).toNat * 3)).off + 1, none⟩ = some (.int .i64 ((rd_T39 x4_1 x8_2).f1)) ∧ w'.cell? ⟨(ad1219.add ((x8_2).toNat * 3)).block, (ad1219.add ((x8_2).toNat * 3)).off + 2, none⟩ = some (.string ((rd_T39 x4_1 x8_2).f2))) (ds := []) #[false, false, false, false, false, false] (by kernel_rfl) rfl rfl ⟨(blk_cell BK1222.out 0).trans rfl, (blk_cell BK1222.out 1).trans rfl, (blk_cell BK1222.out 2).trans rfl, hx1229_0, hx1229_1, hx1229_2⟩ (fun hHeld => ?_)
                        generalize w55.drew = w56 at HO_4 BK1212 BK1213 BK1220 BK1222 HB hx1229_0 hx1229_1 hx1229_2 hHeld ⊢
                        refine pure_ (i := 1) (N := some 56) (v := ?_) (a' := ?_) #[false, true, false, false, false, false] rfl rfl (by kernel_rfl) (fun _ _ _ h => h) (Or.inl ⟨by rfl, ?_⟩) ?_ ?_
                        rotate_left
                        · intro w'
                          go_simp
                          with_reducible rfl
                        rotate_left
                        · simp only [Act.put, List.setIfInBounds_toArray, List.set_cons_zero, List.set_cons_succ, i64_w, i32_w]
                          rfl
                        refine pure_ (i := 2) (N := some 57) (v := ?_) (a' := ?_) #[false, true, true, false, false, false] rfl rfl (by kernel_rfl) (fun _ _ _ h => h) (Or.inl ⟨by rfl, ?_⟩) ?_ ?_
                        rotate_left
                        · intro w'
                          go_simp
                          with_reducible rfl
                        rotate_left
                        · simp only [Act.put, List.setIfInBounds_toArray, List.set_cons_zero, List.set_cons_succ, i64_w, i32_w]
                          rfl
                        refine pure_ (i := 3) (N := some 58) (v := ?_) (a' := ?_) #[false, true, true, true, false, false] rfl rfl (by kernel_rfl) (fun _ _ _ h => h) (Or.inl ⟨by rfl, ?_⟩) ?_ ?_
                        rotate_left
                        · intro w'
                          go_simp
                          with_reducible rfl
                        rotate_left
                        · simp only [Act.put, List.setIfInBounds_toArray, List.set_cons_zero, List.set_cons_succ, i64_w, i32_w]
                          rfl
                        refine take_ (i := 0) (N := some 55) (v := ?_) (a' := ?_) #[true, true, true, true, false, false] rfl rfl (by kernel_rfl) (fun _ _ _ h => h) (Or.inl ⟨by rfl, ?_⟩) hHeld ?_ ?_
                        rotate_left
                        · rintro w' ⟨s0, s1, s2, s3, s4, s5⟩
                          go_simp
                          with_reducible rfl
                        rotate_left
                        · simp only [Act.put, List.setIfInBounds_toArray, List.set_cons_zero, List.set_cons_succ, i64_w, i32_w]
                          rfl
                        refine take_ (i := 4) (N := some 59) (v := ?_) (a' := ?_) #[true, true, true, true, true, false] rfl rfl (by kernel_rfl) (fun _ _ _ h => h) (Or.inl ⟨by rfl, ?_⟩) hHeld ?_ ?_
                        rotate_left
                        · rintro w' ⟨s0, s1, s2, s3, s4, s5⟩
                          go_simp
                          with_reducible rfl
                        rotate_left
                        · simp only [Act.put, List.setIfInBounds_toArray, List.set_cons_zero, List.set_cons_succ, i64_w, i32_w]
                          rfl
                        refine one_ (i := 5) (N := some 60) #[true, true, true, true, true, true] rfl rfl (by kernel_rfl) (by decide) (fun K hK => ?_)
                        refine goes_ Try.func64 (by kernel_rfl) rfl #[.agg #[.int .u8 x1223000_2, .int .i64 x1223001_2, .string x1223002_2], .agg #[.int .u8 ((rd_T39 x4_1 x8_2).f0), .int .i64 ((rd_T39 x4_1 x8_2).f1), .string ((rd_T39 x4_1 x8_2).f2)]] (by rfl) rfl rfl (by (try simp only [List.map_toArray, List.map_cons, List.map_nil]); first | done | rfl | (simp only [List.length_drop, List.length_take]; rfl)) ?_
                        with_reducible refine (tidelineref03_Less.calls x1223000_2 x1223001_2 x1223002_2 ((rd_T39 x4_1 x8_2).f0) ((rd_T39 x4_1 x8_2).f1) ((rd_T39 x4_1 x8_2).f2) true _ A52.out).mono ?_
                        rintro e w57 ⟨rfl, hb⟩
                        have HS3_ := (hb.cell (World.block_lt_of_cell? _ _ (hHeld.2.2.2.1))).trans (hHeld.2.2.2.1)
                        have HS4_ := (hb.cell (World.block_lt_of_cell? _ _ (hHeld.2.2.2.2.1))).trans (hHeld.2.2.2.2.1)
                        have HS5_ := (hb.cell (World.block_lt_of_cell? _ _ (hHeld.2.2.2.2.2))).trans (hHeld.2.2.2.2.2)
                        refine ⟨_, rfl, ?_⟩
                        have n0_ := Aside0.mk (Kd.R_below (by (with_reducible repeat (first | apply Kd.R_alloc | apply Kd.R_drewN | apply Kd.R_drew)); exact HO_4.out) hb)
                        have n1_ := Aside0.mk (blk_below (g := gb1212) (o := .cells #[.int .u8 0, .int .i64 0, .string (⟨#[]⟩ : ByteArray)] 39 (0, 0)) (by (with_reducible repeat (first | refine blk_drewN ?_ _ | refine blk_drew ?_ | refine blk_alloc ?_ _)); exact BK1212.out) hb)
                        have n2_ := Aside0.mk (blk_below (g := gb1213) (o := .cells #[.int .u8 0, .int .i64 0, .string (⟨#[]⟩ : ByteArray)] 39 (0, 0)) (by (with_reducible repeat (first | refine blk_drewN ?_ _ | refine blk_drew ?_ | refine blk_alloc ?_ _)); exact BK1213.out) hb)
                        have n3_ := Aside0.mk (blk_below (g := gb1220) (o := .cells #[.int .u8 x1221000_2, .int .i64 x1221001_2, .string x1221002_2] 39 (0, 0)) (by (with_reducible repeat (first | refine blk_drewN ?_ _ | refine blk_drew ?_ | refine blk_alloc ?_ _)); exact BK1220.out) hb)
                        have n4_ := Aside0.mk (blk_below (g := gb1222) (o := .cells #[.int .u8 x1223000_2, .int .i64 x1223001_2, .string x1223002_2] 39 (0, 0)) (by (with_reducible repeat (first | refine blk_drewN ?_ _ | refine blk_drew ?_ | refine blk_alloc ?_ _)); exact BK1222.out) hb)
                        have n5_ := Aside0.mk (below_step (by repeat (first | (with_reducible first | exact HB.out | apply below_alloc | apply pw_below_drewN | apply below_drew1 | refine below_set ?_ GE1212.out | refine below_set ?_ GE1213.out | refine below_set ?_ GE1220.out | refine below_set ?_ GE1222.out) | exact HB.out)) hb)
                        clear HO_4
                        clear BK1212
                        clear BK1213
                        clear BK1220
                        clear BK1222
                        clear HB
                        have HO_4 := n0_
                        have BK1212 := n1_
                        have BK1213 := n2_
                        have BK1220 := n3_
                        have BK1222 := n4_
                        have HB := n5_
                        clear n0_ n1_ n2_ n3_ n4_ n5_
                        (try clear hb)
                        (try clear hb2)
                        (try clear hk)
                        (try clear hi)
                        refine hK.out _ _ ⟨(blk_cell BK1222.out 0).trans rfl, (blk_cell BK1222.out 1).trans rfl, (blk_cell BK1222.out 2).trans rfl, HS3_, HS4_, HS5_⟩ (fun hHeld => ?_)
                        clear hK K
                        refine norm_ (a' := ?_) ?_ ?_
                        rotate_left
                        · show Act.put _ (some 60) _ = _
                          simp only [Act.put, List.setIfInBounds_toArray, List.set_cons_zero, List.set_cons_succ, i64_w, i32_w]
                          rfl
                        refine done_ (by kernel_rfl) ?_
                        have p1231 : 0 ≤ (x8_2 : Int) := of_decide_eq_true (by first | (with_reducible assumption) | assumption)
                        have q1231 : x8_2 < (x4_1.length : Int) := of_decide_eq_true (by first | (with_reducible assumption) | assumption)
                        obtain ⟨ad1231, e1231, hx1231_0, hx1231_1, hx1231_2⟩ := at_T39 (Kd.R_reads' HO_4.out).2.2 x8_2 p1231 q1231
                        obtain rfl : ad1219 = ad1231 := (by injection e1231)
                        replace p1231 := eq_true p1231
                        replace q1231 := eq_true q1231
                        have hnb58 := NB1222_1212.out
                        have hnc58 := NB1212_1222.out
                        have hnb59 := NB1222_1213.out
                        have hnc59 := NB1213_1222.out
                        have hnb60 := NB1222_1220.out
                        have hnc60 := NB1220_1222.out
                        have hcz61_0 : w57.cell? ⟨gb1222, 0, none⟩ = some (.int .u8 x1223000_2) := (blk_cell BK1222.out 0).trans rfl
                        have hcz61_1 : w57.cell? ⟨gb1222, 1, none⟩ = some (.int .i64 x1223001_2) := (blk_cell BK1222.out 1).trans rfl
                        have hcz61_2 : w57.cell? ⟨gb1222, 2, none⟩ = some (.string x1223002_2) := (blk_cell BK1222.out 2).trans rfl
                        have hfz61_0 := blk_frozen BK1222.out 0
                        have hfz61_1 := blk_frozen BK1222.out 1
                        have hfz61_2 := blk_frozen BK1222.out 2
                        try go_wp2
                        go_roundg k2
                        case measure => have := HK1.out; have := HK2.out; omega
                        case rel => exact ⟨(wrap64 (x8_2 + 1)), (x1221000_2), (x1221001_2), (x1221002_2), ((rd_T39 x4_1 x8_2).f0), ((rd_T39 x4_1 x8_2).f1), ((rd_T39 x4_1 x8_2).f2), (by first | rfl | (simp; done) | (simp [*]; done)), H', ⟨by have := HK1.out; have := HK2.out; omega⟩, ⟨by (with_reducible repeat (first | apply Kd.R_alloc | apply Kd.R_drewN | apply Kd.R_drew)); exact Kd.R_mono (Kd.R_far (p := ⟨gb1222, 2, none⟩) (Kd.R_far (p := ⟨gb1222, 1, none⟩) (Kd.R_far (p := ⟨gb1222, 0, none⟩) (Kd.R_mono HO_4.out (fun k_ hk => (⟨hk, hk.2.2.2⟩ : _ ∧ k_ ≠ gb1222))) (fun _ hk => hk.2) (.int .u8 ((rd_T39 x4_1 x8_2).f0))) (fun _ hk => hk.2) (.int .i64 ((rd_T39 x4_1 x8_2).f1))) (fun _ hk => hk.2) (.string ((rd_T39 x4_1 x8_2).f2))) (fun _ hk => ⟨hk.1.1, ⟨hk.1.2.1, ⟨hk.1.2.2.1, hk.1.2.2.2⟩⟩⟩)⟩, ⟨by (with_reducible repeat (first | refine blk_drewN ?_ _ | refine blk_drew ?_ | refine blk_alloc ?_ _)); refine blk_far ?_ NB1212_1222.out _; (with_reducible repeat (first | refine blk_drewN ?_ _ | refine blk_drew ?_ | refine blk_alloc ?_ _)); refine blk_far ?_ NB1212_1222.out _; (with_reducible repeat (first | refine blk_drewN ?_ _ | refine blk_drew ?_ | refine blk_alloc ?_ _)); refine blk_far ?_ NB1212_1222.out _; (with_reducible repeat (first | refine blk_drewN ?_ _ | refine blk_drew ?_ | refine blk_alloc ?_ _)); exact BK1212.out⟩, ⟨by (with_reducible repeat (first | refine blk_drewN ?_ _ | refine blk_drew ?_ | refine blk_alloc ?_ _)); refine blk_far ?_ NB1213_1222.out _; (with_reducible repeat (first | refine blk_drewN ?_ _ | refine blk_drew ?_ | refine blk_alloc ?_ _)); refine blk_far ?_ NB1213_1222.out _; (with_reducible repeat (first | refine blk_drewN ?_ _ | refine blk_drew ?_ | refine blk_alloc ?_ _)); refine blk_far ?_ NB1213_1222.out _; (with_reducible repeat (first | refine blk_drewN ?_ _ | refine blk_drew ?_ | refine blk_alloc ?_ _)); exact BK1213.out⟩, ⟨by (with_reducible repeat (first | refine blk_drewN ?_ _ | refine blk_drew ?_ | refine blk_alloc ?_ _)); refine blk_far ?_ NB1220_1222.out _; (with_reducible repeat (first | refine blk_drewN ?_ _ | refine blk_drew ?_ | refine blk_alloc ?_ _)); refine blk_far ?_ NB1220_1222.out _; (with_reducible repeat (first | refine blk_drewN ?_ _ | refine blk_drew ?_ | refine blk_alloc ?_ _)); refine blk_far ?_ NB1220_1222.out _; (with_reducible repeat (first | refine blk_drewN ?_ _ | refine blk_drew ?_ | refine blk_alloc ?_ _)); exact BK1220.out⟩, ⟨by (with_reducible repeat (first | refine blk_drewN ?_ _ | refine blk_drew ?_ | refine blk_alloc ?_ _)); refine blk_put (cs := #[.int .u8 ((rd_T39 x4_1 x8_2).f0), .int .i64 ((rd_T39 x4_1 x8_2).f1), .string x1223002_2]) ?_ 2 _ rfl; (with_reducible repeat (first | refine blk_drewN ?_ _ | refine blk_drew ?_ | refine blk_alloc ?_ _)); refine blk_put (cs := #[.int .u8 ((rd_T39 x4_1 x8_2).f0), .int .i64 x1223001_2, .string x1223002_2]) ?_ 1 _ rfl; (with_reducible repeat (first | refine blk_drewN ?_ _ | refine blk_drew ?_ | refine blk_alloc ?_ _)); refine blk_put (cs := #[.int .u8 x1223000_2, .int .i64 x1223001_2, .string x1223002_2]) ?_ 0 _ rfl; (with_reducible repeat (first | refine blk_drewN ?_ _ | refine blk_drew ?_ | refine blk_alloc ?_ _)); exact BK1222.out⟩, ⟨by repeat (first | (with_reducible first | exact HB.out | apply below_alloc | apply pw_below_drewN | apply below_drew1 | refine below_set ?_ GE1212.out | refine below_set ?_ GE1213.out | refine below_set ?_ GE1220.out | refine below_set ?_ GE1222.out) | exact HB.out)⟩⟩
                      · replace c53 := Bool.eq_false_iff.mpr c53
                        subst c53
                        have H1 : (tidelineref06_Bounds.l1 k2 x4_1 (wrap64 (x8_2 + 1)) x1221000_2 x1221001_2 x1221002_2 x1223000_2 x1223001_2 x1223002_2) = some (r1, r2, r3, r4, r5, r6) := by rw [if_neg (show ¬ (false = true) by decide)] at H; exact H
                        clear H
                        have H := H1
                        clear H1
                        have H' := Aside0.mk H
                        clear H
                        try go_wp2
                        have n0_ := Aside0.mk (Kd.R_drew HO_4.out)
                        have n1_ := Aside0.mk (blk_drew BK1212.out)
                        have n2_ := Aside0.mk (blk_drew BK1213.out)
                        have n3_ := Aside0.mk (blk_drew BK1220.out)
                        have n4_ := Aside0.mk (blk_drew BK1222.out)
                        have n5_ := Aside0.mk (below_drew1 HB.out)
                        clear HO_4
                        clear BK1212
                        clear BK1213
                        clear BK1220
                        clear BK1222
                        clear HB
                        have HO_4 := n0_
                        have BK1212 := n1_
                        have BK1213 := n2_
                        have BK1220 := n3_
                        have BK1222 := n4_
                        have HB := n5_
                        clear n0_ n1_ n2_ n3_ n4_ n5_
                        have p1223 : 0 ≤ (x8_2 : Int) := of_decide_eq_true (by first | (with_reducible assumption) | assumption)
                        have q1223 : x8_2 < (x4_1.length : Int) := of_decide_eq_true (by first | (with_reducible assumption) | assumption)
                        obtain ⟨ad1223, e1223, hx1223_0, hx1223_1, hx1223_2⟩ := at_T39 (Kd.R_reads' HO_4.out).2.2 x8_2 p1223 q1223
                        obtain rfl : ad1219 = ad1223 := (by injection e1223)
                        replace p1223 := eq_true p1223
                        replace q1223 := eq_true q1223
                        refine start_ (n := 6) (S := fun w' => w'.cell? ⟨gb1220, 0, none⟩ = some (.int .u8 x1221000_2) ∧ w'.cell? ⟨gb1220, 1, none⟩ = some (.int .i64 x1221001_2) ∧ w'.cell? ⟨gb1220, 2, none⟩ = some (.string x1221002_2) ∧ w'.cell? (ad1219.add ((x8_2).toNat * 3)) = some (.int .u8 ((rd_T39 x4_1 x8_2).f0)) ∧ w'.cell? ⟨(ad1219.add ((x8_2).toNat * 3)).block, (ad1219.add ((x8_2).toNat * 3)).off + 1, none⟩ = some (.int .i64 ((rd_T39 x4_1 x8_2).f1)) ∧ w'.cell? ⟨(ad1219.add ((x8_2).toNat * 3)).block, (ad1219.add ((x8_2).toNat * 3)).off + 2, none⟩ = some (.string ((rd_T39 x4_1 x8_2).f2))) (ds := []) #[false, false, false, false, false, false] (by kernel_rfl) rfl rfl ⟨(blk_cell BK1220.out 0).trans rfl, (blk_cell BK1220.out 1).trans rfl, (blk_cell BK1220.out 2).trans rfl, hx1223_0, hx1223_1, hx1223_2⟩ (fun hHeld => ?_)
                        generalize wr.drew = w62 at HO_4 BK1212 BK1213 BK1220 BK1222 HB hx1223_0 hx1223_1 hx1223_2 hHeld ⊢
                        refine pure_ (i := 0) (N := some 45) (v := ?_) (a' := ?_) #[true, false, false, false, false, false] rfl rfl (by kernel_rfl) (fun _ _ _ h => h) (Or.inl ⟨by rfl, ?_⟩) ?_ ?_
                        rotate_left
                        · intro w'
                          go_simp
                          with_reducible rfl
                        rotate_left
                        · simp only [Act.put, List.setIfInBounds_toArray, List.set_cons_zero, List.set_cons_succ, i64_w, i32_w]
                          rfl
                        refine pure_ (i := 1) (N := some 46) (v := ?_) (a' := ?_) #[true, true, false, false, false, false] rfl rfl (by kernel_rfl) (fun _ _ _ h => h) (Or.inl ⟨by rfl, ?_⟩) ?_ ?_
                        rotate_left
                        · intro w'
                          go_simp
                          with_reducible rfl
                        rotate_left
                        · simp only [Act.put, List.setIfInBounds_toArray, List.set_cons_zero, List.set_cons_succ, i64_w, i32_w]
                          rfl
                        refine pure_ (i := 2) (N := some 47) (v := ?_) (a' := ?_) #[true, true, true, false, false, false] rfl rfl (by kernel_rfl) (fun _ _ _ h => h) (Or.inl ⟨by rfl, ?_⟩) ?_ ?_
                        rotate_left
                        · intro w'
                          go_simp
                          with_reducible rfl
                        rotate_left
                        · simp only [Act.put, List.setIfInBounds_toArray, List.set_cons_zero, List.set_cons_succ, i64_w, i32_w]
                          rfl
                        refine take_ (i := 3) (N := some 48) (v := ?_) (a' := ?_) #[true, true, true, true, false, false] rfl rfl (by kernel_rfl) (fun _ _ _ h => h) (Or.inl ⟨by rfl, ?_⟩) hHeld ?_ ?_
                        rotate_left
                        · rintro w' ⟨s0, s1, s2, s3, s4, s5⟩
                          go_simp
                          with_reducible rfl
                        rotate_left
                        · simp only [Act.put, List.setIfInBounds_toArray, List.set_cons_zero, List.set_cons_succ, i64_w, i32_w]
                          rfl
                        refine take_ (i := 4) (N := some 49) (v := ?_) (a' := ?_) #[true, true, true, true, true, false] rfl rfl (by kernel_rfl) (fun _ _ _ h => h) (Or.inl ⟨by rfl, ?_⟩) hHeld ?_ ?_
                        rotate_left
                        · rintro w' ⟨s0, s1, s2, s3, s4, s5⟩
                          go_simp
                          with_reducible rfl
                        rotate_left
                        · simp only [Act.put, List.setIfInBounds_toArray, List.set_cons_zero, List.set_cons_succ, i64_w, i32_w]
                          rfl
                        refine one_ (i := 5) (N := some 50) #[true, true, true, true, true, true] rfl rfl (by kernel_rfl) (by decide) (fun K hK => ?_)
                        refine goes_ Try.func64 (by kernel_rfl) rfl #[.agg #[.int .u8 ((rd_T39 x4_1 x8_2).f0), .int .i64 ((rd_T39 x4_1 x8_2).f1), .string ((rd_T39 x4_1 x8_2).f2)], .agg #[.int .u8 x1221000_2, .int .i64 x1221001_2, .string x1221002_2]] (by rfl) rfl rfl (by (try simp only [List.map_toArray, List.map_cons, List.map_nil]); first | done | rfl | (simp only [List.length_drop, List.length_take]; rfl)) ?_
                        with_reducible refine (tidelineref03_Less.calls ((rd_T39 x4_1 x8_2).f0) ((rd_T39 x4_1 x8_2).f1) ((rd_T39 x4_1 x8_2).f2) x1221000_2 x1221001_2 x1221002_2 false _ A27.out).mono ?_
                        rintro e w63 ⟨rfl, hb⟩
                        have HS3_ := (hb.cell (World.block_lt_of_cell? _ _ (hHeld.2.2.2.1))).trans (hHeld.2.2.2.1)
                        have HS4_ := (hb.cell (World.block_lt_of_cell? _ _ (hHeld.2.2.2.2.1))).trans (hHeld.2.2.2.2.1)
                        have HS5_ := (hb.cell (World.block_lt_of_cell? _ _ (hHeld.2.2.2.2.2))).trans (hHeld.2.2.2.2.2)
                        refine ⟨_, rfl, ?_⟩
                        have n0_ := Aside0.mk (Kd.R_below (by (with_reducible repeat (first | apply Kd.R_alloc | apply Kd.R_drewN | apply Kd.R_drew)); exact HO_4.out) hb)
                        have n1_ := Aside0.mk (blk_below (g := gb1212) (o := .cells #[.int .u8 0, .int .i64 0, .string (⟨#[]⟩ : ByteArray)] 39 (0, 0)) (by (with_reducible repeat (first | refine blk_drewN ?_ _ | refine blk_drew ?_ | refine blk_alloc ?_ _)); exact BK1212.out) hb)
                        have n2_ := Aside0.mk (blk_below (g := gb1213) (o := .cells #[.int .u8 0, .int .i64 0, .string (⟨#[]⟩ : ByteArray)] 39 (0, 0)) (by (with_reducible repeat (first | refine blk_drewN ?_ _ | refine blk_drew ?_ | refine blk_alloc ?_ _)); exact BK1213.out) hb)
                        have n3_ := Aside0.mk (blk_below (g := gb1220) (o := .cells #[.int .u8 x1221000_2, .int .i64 x1221001_2, .string x1221002_2] 39 (0, 0)) (by (with_reducible repeat (first | refine blk_drewN ?_ _ | refine blk_drew ?_ | refine blk_alloc ?_ _)); exact BK1220.out) hb)
                        have n4_ := Aside0.mk (blk_below (g := gb1222) (o := .cells #[.int .u8 x1223000_2, .int .i64 x1223001_2, .string x1223002_2] 39 (0, 0)) (by (with_reducible repeat (first | refine blk_drewN ?_ _ | refine blk_drew ?_ | refine blk_alloc ?_ _)); exact BK1222.out) hb)
                        have n5_ := Aside0.mk (below_step (by repeat (first | (with_reducible first | exact HB.out | apply below_alloc | apply pw_below_drewN | apply below_drew1 | refine below_set ?_ GE1212.out | refine below_set ?_ GE1213.out | refine below_set ?_ GE1220.out | refine below_set ?_ GE1222.out) | exact HB.out)) hb)
                        clear HO_4
                        clear BK1212
                        clear BK1213
                        clear BK1220
                        clear BK1222
                        clear HB
                        have HO_4 := n0_
                        have BK1212 := n1_
                        have BK1213 := n2_
                        have BK1220 := n3_
                        have BK1222 := n4_
                        have HB := n5_
                        clear n0_ n1_ n2_ n3_ n4_ n5_
                        (try clear hb)
                        (try clear hb2)
                        (try clear hk)
                        (try clear hi)
                        refine hK.out _ _ ⟨(blk_cell BK1220.out 0).trans rfl, (blk_cell BK1220.out 1).trans rfl, (blk_cell BK1220.out 2).trans rfl, HS3_, HS4_, HS5_⟩ (fun hHeld => ?_)
                        clear hK K
                        refine norm_ (a' := ?_) ?_ ?_
                        rotate_left
                        · show Act.put _ (some 50) _ = _
                          simp only [Act.put, List.setIfInBounds_toArray, List.set_cons_zero, List.set_cons_succ, i64_w, i32_w]
                          rfl
                        refine done_ (by kernel_rfl) ?_
                        try go_wp2
                        have n0_ := Aside0.mk (Kd.R_drew HO_4.out)
                        have n1_ := Aside0.mk (blk_drew BK1212.out)
                        have n2_ := Aside0.mk (blk_drew BK1213.out)
                        have n3_ := Aside0.mk (blk_drew BK1220.out)
                        have n4_ := Aside0.mk (blk_drew BK1222.out)
                        have n5_ := Aside0.mk (below_drew1 HB.out)
                        clear HO_4
                        clear BK1212
                        clear BK1213
                        clear BK1220
                        clear BK1222
                        clear HB
                        have HO_4 := n0_
                        have BK1212 := n1_
                        have BK1213 := n2_
                        have BK1220 := n3_
                        have BK1222 := n4_
                        have HB := n5_
                        clear n0_ n1_ n2_ n3_ n4_ n5_
                        have p1229 : 0 ≤ (x8_2 : Int) := of_decide_eq_true (by first | (with_reducible assumption) | assumption)
                        have q1229 : x8_2 < (x4_1.length : Int) := of_decide_eq_true (by first | (with_reducible assumption) | assumption)
                        obtain ⟨ad1229, e1229, hx1229_0, hx1229_1, hx1229_2⟩ := at_T39 (Kd.R_reads' HO_4.out).2.2 x8_2 p1229 q1229
                        obtain rfl : ad1219 = ad1229 := (by injection e1229)
                        replace p1229 := eq_true p1229
                        replace q1229 := eq_true q1229
                        refine start_ (n := 6) (S := fun w' => w'.cell? ⟨gb1222, 0, none⟩ = some (.int .u8 x1223000_2) ∧ w'.cell? ⟨gb1222, 1, none⟩ = some (.int .i64 x1223001_2) ∧ w'.cell? ⟨gb1222, 2, none⟩ = some (.string x1223002_2) ∧ w'.cell? (ad1219.add ((x8_2).toNat * 3)) = some (.int .u8 ((rd_T39 x4_1 x8_2).f0)) ∧ w'.cell? ⟨(ad1219.add ((x8_2).toNat * 3)).block, (ad1219.add ((x8_2).toNat * 3)).off + 1, none⟩ = some (.int .i64 ((rd_T39 x4_1 x8_2).f1)) ∧ w'.cell? ⟨(ad1219.add ((x8_2).toNat * 3)).block, (ad1219.add ((x8_2).toNat * 3)).off + 2, none⟩ = some (.string ((rd_T39 x4_1 x8_2).f2))) (ds := []) #[false, false, false, false, false, false] (by kernel_rfl) rfl rfl ⟨(blk_cell BK1222.out 0).trans rfl, (blk_cell BK1222.out 1).trans rfl, (blk_cell BK1222.out 2).trans rfl, hx1229_0, hx1229_1, hx1229_2⟩ (fun hHeld => ?_)
                        generalize w63.drew = w64 at HO_4 BK1212 BK1213 BK1220 BK1222 HB hx1229_0 hx1229_1 hx1229_2 hHeld ⊢
                        refine pure_ (i := 1) (N := some 56) (v := ?_) (a' := ?_) #[false, true, false, false, false, false] rfl rfl (by kernel_rfl) (fun _ _ _ h => h) (Or.inl ⟨by rfl, ?_⟩) ?_ ?_
                        rotate_left
                        · intro w'
                          go_simp
                          with_reducible rfl
                        rotate_left
                        · simp only [Act.put, List.setIfInBounds_toArray, List.set_cons_zero, List.set_cons_succ, i64_w, i32_w]
                          rfl
                        refine pure_ (i := 2) (N := some 57) (v := ?_) (a' := ?_) #[false, true, true, false, false, false] rfl rfl (by kernel_rfl) (fun _ _ _ h => h) (Or.inl ⟨by rfl, ?_⟩) ?_ ?_
                        rotate_left
                        · intro w'
                          go_simp
                          with_reducible rfl
                        rotate_left
                        · simp only [Act.put, List.setIfInBounds_toArray, List.set_cons_zero, List.set_cons_succ, i64_w, i32_w]
                          rfl
                        refine pure_ (i := 3) (N := some 58) (v := ?_) (a' := ?_) #[false, true, true, true, false, false] rfl rfl (by kernel_rfl) (fun _ _ _ h => h) (Or.inl ⟨by rfl, ?_⟩) ?_ ?_
                        rotate_left
                        · intro w'
                          go_simp
                          with_reducible rfl
                        rotate_left
                        · simp only [Act.put, List.setIfInBounds_toArray, List.set_cons_zero, List.set_cons_succ, i64_w, i32_w]
                          rfl
                        refine take_ (i := 0) (N := some 55) (v := ?_) (a' := ?_) #[true, true, true, true, false, false] rfl rfl (by kernel_rfl) (fun _ _ _ h => h) (Or.inl ⟨by rfl, ?_⟩) hHeld ?_ ?_
                        rotate_left
                        · rintro w' ⟨s0, s1, s2, s3, s4, s5⟩
                          go_simp
                          with_reducible rfl
                        rotate_left
                        · simp only [Act.put, List.setIfInBounds_toArray, List.set_cons_zero, List.set_cons_succ, i64_w, i32_w]
                          rfl
                        refine take_ (i := 4) (N := some 59) (v := ?_) (a' := ?_) #[true, true, true, true, true, false] rfl rfl (by kernel_rfl) (fun _ _ _ h => h) (Or.inl ⟨by rfl, ?_⟩) hHeld ?_ ?_
                        rotate_left
                        · rintro w' ⟨s0, s1, s2, s3, s4, s5⟩
                          go_simp
                          with_reducible rfl
                        rotate_left
                        · simp only [Act.put, List.setIfInBounds_toArray, List.set_cons_zero, List.set_cons_succ, i64_w, i32_w]
                          rfl
                        refine one_ (i := 5) (N := some 60) #[true, true, true, true, true, true] rfl rfl (by kernel_rfl) (by decide) (fun K hK => ?_)
                        refine goes_ Try.func64 (by kernel_rfl) rfl #[.agg #[.int .u8 x1223000_2, .int .i64 x1223001_2, .string x1223002_2], .agg #[.int .u8 ((rd_T39 x4_1 x8_2).f0), .int .i64 ((rd_T39 x4_1 x8_2).f1), .string ((rd_T39 x4_1 x8_2).f2)]] (by rfl) rfl rfl (by (try simp only [List.map_toArray, List.map_cons, List.map_nil]); first | done | rfl | (simp only [List.length_drop, List.length_take]; rfl)) ?_
                        with_reducible refine (tidelineref03_Less.calls x1223000_2 x1223001_2 x1223002_2 ((rd_T39 x4_1 x8_2).f0) ((rd_T39 x4_1 x8_2).f1) ((rd_T39 x4_1 x8_2).f2) false _ A52.out).mono ?_
                        rintro e w65 ⟨rfl, hb⟩
                        have HS3_ := (hb.cell (World.block_lt_of_cell? _ _ (hHeld.2.2.2.1))).trans (hHeld.2.2.2.1)
                        have HS4_ := (hb.cell (World.block_lt_of_cell? _ _ (hHeld.2.2.2.2.1))).trans (hHeld.2.2.2.2.1)
                        have HS5_ := (hb.cell (World.block_lt_of_cell? _ _ (hHeld.2.2.2.2.2))).trans (hHeld.2.2.2.2.2)
                        refine ⟨_, rfl, ?_⟩
                        have n0_ := Aside0.mk (Kd.R_below (by (with_reducible repeat (first | apply Kd.R_alloc | apply Kd.R_drewN | apply Kd.R_drew)); exact HO_4.out) hb)
                        have n1_ := Aside0.mk (blk_below (g := gb1212) (o := .cells #[.int .u8 0, .int .i64 0, .string (⟨#[]⟩ : ByteArray)] 39 (0, 0)) (by (with_reducible repeat (first | refine blk_drewN ?_ _ | refine blk_drew ?_ | refine blk_alloc ?_ _)); exact BK1212.out) hb)
                        have n2_ := Aside0.mk (blk_below (g := gb1213) (o := .cells #[.int .u8 0, .int .i64 0, .string (⟨#[]⟩ : ByteArray)] 39 (0, 0)) (by (with_reducible repeat (first | refine blk_drewN ?_ _ | refine blk_drew ?_ | refine blk_alloc ?_ _)); exact BK1213.out) hb)
                        have n3_ := Aside0.mk (blk_below (g := gb1220) (o := .cells #[.int .u8 x1221000_2, .int .i64 x1221001_2, .string x1221002_2] 39 (0, 0)) (by (with_reducible repeat (first | refine blk_drewN ?_ _ | refine blk_drew ?_ | refine blk_alloc ?_ _)); exact BK1220.out) hb)
                        have n4_ := Aside0.mk (blk_below (g := gb1222) (o := .cells #[.int .u8 x1223000_2, .int .i64 x1223001_2, .string x1223002_2] 39 (0, 0)) (by (with_reducible repeat (first | refine blk_drewN ?_ _ | refine blk_drew ?_ | refine blk_alloc ?_ _)); exact BK1222.out) hb)
                        have n5_ := Aside0.mk (below_step (by repeat (first | (with_reducible first | exact HB.out | apply below_alloc | apply pw_below_drewN | apply below_drew1 | refine below_set ?_ GE1212.out | refine below_set ?_ GE1213.out | refine below_set ?_ GE1220.out | refine below_set ?_ GE1222.out) | exact HB.out)) hb)
                        clear HO_4
                        clear BK1212
                        clear BK1213
                        clear BK1220
                        clear BK1222
                        clear HB
                        have HO_4 := n0_
                        have BK1212 := n1_
                        have BK1213 := n2_
                        have BK1220 := n3_
                        have BK1222 := n4_
                        have HB := n5_
                        clear n0_ n1_ n2_ n3_ n4_ n5_
                        (try clear hb)
                        (try clear hb2)
                        (try clear hk)
                        (try clear hi)
                        refine hK.out _ _ ⟨(blk_cell BK1222.out 0).trans rfl, (blk_cell BK1222.out 1).trans rfl, (blk_cell BK1222.out 2).trans rfl, HS3_, HS4_, HS5_⟩ (fun hHeld => ?_)
                        clear hK K
                        refine norm_ (a' := ?_) ?_ ?_
                        rotate_left
                        · show Act.put _ (some 60) _ = _
                          simp only [Act.put, List.setIfInBounds_toArray, List.set_cons_zero, List.set_cons_succ, i64_w, i32_w]
                          rfl
                        refine done_ (by kernel_rfl) ?_
                        try go_wp2
                        go_roundg k2
                        case measure => have := HK1.out; have := HK2.out; omega
                        case rel => exact ⟨(wrap64 (x8_2 + 1)), (x1221000_2), (x1221001_2), (x1221002_2), (x1223000_2), (x1223001_2), (x1223002_2), (by first | rfl | (simp; done) | (simp [*]; done)), H', ⟨by have := HK1.out; have := HK2.out; omega⟩, ⟨by (with_reducible repeat (first | apply Kd.R_alloc | apply Kd.R_drewN | apply Kd.R_drew)); exact HO_4.out⟩, ⟨by (with_reducible repeat (first | refine blk_drewN ?_ _ | refine blk_drew ?_ | refine blk_alloc ?_ _)); exact BK1212.out⟩, ⟨by (with_reducible repeat (first | refine blk_drewN ?_ _ | refine blk_drew ?_ | refine blk_alloc ?_ _)); exact BK1213.out⟩, ⟨by (with_reducible repeat (first | refine blk_drewN ?_ _ | refine blk_drew ?_ | refine blk_alloc ?_ _)); exact BK1220.out⟩, ⟨by (with_reducible repeat (first | refine blk_drewN ?_ _ | refine blk_drew ?_ | refine blk_alloc ?_ _)); exact BK1222.out⟩, ⟨by repeat (first | (with_reducible first | exact HB.out | apply below_alloc | apply pw_below_drewN | apply below_drew1 | refine below_set ?_ GE1212.out | refine below_set ?_ GE1213.out | refine below_set ?_ GE1220.out | refine below_set ?_ GE1222.out) | exact HB.out)⟩⟩
                  · rw [if_neg c26] at H
                    exact absurd H (by simp)
                · rw [if_neg c25] at H
                  have c25b0 : decide (x8_2 < (x4_1.length : Int)) = false := decide_eq_false c25
                  clear c25
                  simp only [Option.some.injEq, Prod.mk.injEq] at H
                  obtain ⟨rfl, rfl, rfl, rfl, rfl, rfl⟩ := H
                  try go_wp2
                  have n0_ := Aside0.mk (Kd.R_drew HO_4.out)
                  have n1_ := Aside0.mk (blk_drew BK1212.out)
                  have n2_ := Aside0.mk (blk_drew BK1213.out)
                  have n3_ := Aside0.mk (blk_drew BK1220.out)
                  have n4_ := Aside0.mk (blk_drew BK1222.out)
                  have n5_ := Aside0.mk (below_drew1 HB.out)
                  clear HO_4
                  clear BK1212
                  clear BK1213
                  clear BK1220
                  clear BK1222
                  clear HB
                  have HO_4 := n0_
                  have BK1212 := n1_
                  have BK1213 := n2_
                  have BK1220 := n3_
                  have BK1222 := n4_
                  have HB := n5_
                  clear n0_ n1_ n2_ n3_ n4_ n5_
                  refine start_ (n := 4) (S := fun w' => w'.cell? ⟨gb1220, 0, none⟩ = some (.int .u8 x1221000_2) ∧ w'.cell? ⟨gb1220, 1, none⟩ = some (.int .i64 x1221001_2) ∧ w'.cell? ⟨gb1220, 2, none⟩ = some (.string x1221002_2) ∧ w'.cell? ⟨gb1222, 0, none⟩ = some (.int .u8 x1223000_2) ∧ w'.cell? ⟨gb1222, 1, none⟩ = some (.int .i64 x1223001_2) ∧ w'.cell? ⟨gb1222, 2, none⟩ = some (.string x1223002_2)) (ds := []) #[false, false, false, false] (by kernel_rfl) rfl rfl ⟨(blk_cell BK1220.out 0).trans rfl, (blk_cell BK1220.out 1).trans rfl, (blk_cell BK1220.out 2).trans rfl, (blk_cell BK1222.out 0).trans rfl, (blk_cell BK1222.out 1).trans rfl, (blk_cell BK1222.out 2).trans rfl⟩ (fun hHeld => ?_)
                  generalize wr.drew = w66 at HO_4 BK1212 BK1213 BK1220 BK1222 HB hHeld ⊢
                  refine take_ (i := 0) (N := some 65) (v := ?_) (a' := ?_) #[true, false, false, false] rfl rfl (by kernel_rfl) (fun _ _ _ h => h) (Or.inl ⟨by rfl, ?_⟩) hHeld ?_ ?_
                  rotate_left
                  · rintro w' ⟨s0, s1, s2, s3, s4, s5⟩
                    go_simp
                    with_reducible rfl
                  rotate_left
                  · simp only [Act.put, List.setIfInBounds_toArray, List.set_cons_zero, List.set_cons_succ, i64_w, i32_w]
                    rfl
                  refine take_ (i := 1) (N := some 66) (v := ?_) (a' := ?_) #[true, true, false, false] rfl rfl (by kernel_rfl) (fun _ _ _ h => h) (Or.inl ⟨by rfl, ?_⟩) hHeld ?_ ?_
                  rotate_left
                  · rintro w' ⟨s0, s1, s2, s3, s4, s5⟩
                    go_simp
                    with_reducible rfl
                  rotate_left
                  · simp only [Act.put, List.setIfInBounds_toArray, List.set_cons_zero, List.set_cons_succ, i64_w, i32_w]
                    rfl
                  refine one_ (i := 2) (N := none) #[true, true, true, false] rfl rfl (by kernel_rfl) (by decide) (fun K hK => ?_)
                  have hs67 : w66.cell? ⟨gb1212, 0, none⟩ = some (.int .u8 0) := (blk_cell BK1212.out 0).trans rfl
                  have hfs67 := blk_frozen BK1212.out 0
                  have hns67_1 := NB1213_1212.out
                  have hns67_2 := NB1220_1212.out
                  have hns67_3 := NB1222_1212.out
                  have hms67_1 := NB1212_1213.out
                  have hms67_2 := NB1212_1220.out
                  have hms67_3 := NB1212_1222.out
                  have hs68 : w66.cell? ⟨gb1212, 1, none⟩ = some (.int .i64 0) := (blk_cell BK1212.out 1).trans rfl
                  have hfs68 := blk_frozen BK1212.out 1
                  have hns68_1 := NB1213_1212.out
                  have hns68_2 := NB1220_1212.out
                  have hns68_3 := NB1222_1212.out
                  have hms68_1 := NB1212_1213.out
                  have hms68_2 := NB1212_1220.out
                  have hms68_3 := NB1212_1222.out
                  have hs69 : w66.cell? ⟨gb1212, 2, none⟩ = some (.string (⟨#[]⟩ : ByteArray)) := (blk_cell BK1212.out 2).trans rfl
                  have hfs69 := blk_frozen BK1212.out 2
                  have hns69_1 := NB1213_1212.out
                  have hns69_2 := NB1220_1212.out
                  have hns69_3 := NB1222_1212.out
                  have hms69_1 := NB1212_1213.out
                  have hms69_2 := NB1212_1220.out
                  have hms69_3 := NB1212_1222.out
                  refine skip_ (w1 := ?_) (by rfl) rfl ?_ ?_
                  rotate_left
                  · go_simp
                    rfl
                  refine hK.out _ _ ⟨((cell_far (p := ⟨gb1212, _, none⟩) NB1220_1212.out _).trans (((cell_far (p := ⟨gb1212, _, none⟩) NB1220_1212.out _).trans (((cell_far (p := ⟨gb1212, _, none⟩) NB1220_1212.out _).trans (hHeld.1)))))), ((cell_far (p := ⟨gb1212, _, none⟩) NB1220_1212.out _).trans (((cell_far (p := ⟨gb1212, _, none⟩) NB1220_1212.out _).trans (((cell_far (p := ⟨gb1212, _, none⟩) NB1220_1212.out _).trans (hHeld.2.1)))))), ((cell_far (p := ⟨gb1212, _, none⟩) NB1220_1212.out _).trans (((cell_far (p := ⟨gb1212, _, none⟩) NB1220_1212.out _).trans (((cell_far (p := ⟨gb1212, _, none⟩) NB1220_1212.out _).trans (hHeld.2.2.1)))))), ((cell_far (p := ⟨gb1212, _, none⟩) NB1222_1212.out _).trans (((cell_far (p := ⟨gb1212, _, none⟩) NB1222_1212.out _).trans (((cell_far (p := ⟨gb1212, _, none⟩) NB1222_1212.out _).trans (hHeld.2.2.2.1)))))), ((cell_far (p := ⟨gb1212, _, none⟩) NB1222_1212.out _).trans (((cell_far (p := ⟨gb1212, _, none⟩) NB1222_1212.out _).trans (((cell_far (p := ⟨gb1212, _, none⟩) NB1222_1212.out _).trans (hHeld.2.2.2.2.1)))))), ((cell_far (p := ⟨gb1212, _, none⟩) NB1222_1212.out _).trans (((cell_far (p := ⟨gb1212, _, none⟩) NB1222_1212.out _).trans (((cell_far (p := ⟨gb1212, _, none⟩) NB1222_1212.out _).trans (hHeld.2.2.2.2.2))))))⟩ (fun hHeld => ?_)
                  clear hK K
                  refine one_ (i := 3) (N := none) #[true, true, true, true] rfl rfl (by kernel_rfl) (by decide) (fun K hK => ?_)
                  have hs70 : w66.cell? ⟨gb1213, 0, none⟩ = some (.int .u8 0) := (blk_cell BK1213.out 0).trans rfl
                  have hfs70 := blk_frozen BK1213.out 0
                  have hns70_0 := NB1212_1213.out
                  have hns70_2 := NB1220_1213.out
                  have hns70_3 := NB1222_1213.out
                  have hms70_0 := NB1213_1212.out
                  have hms70_2 := NB1213_1220.out
                  have hms70_3 := NB1213_1222.out
                  have hs71 : w66.cell? ⟨gb1213, 1, none⟩ = some (.int .i64 0) := (blk_cell BK1213.out 1).trans rfl
                  have hfs71 := blk_frozen BK1213.out 1
                  have hns71_0 := NB1212_1213.out
                  have hns71_2 := NB1220_1213.out
                  have hns71_3 := NB1222_1213.out
                  have hms71_0 := NB1213_1212.out
                  have hms71_2 := NB1213_1220.out
                  have hms71_3 := NB1213_1222.out
                  have hs72 : w66.cell? ⟨gb1213, 2, none⟩ = some (.string (⟨#[]⟩ : ByteArray)) := (blk_cell BK1213.out 2).trans rfl
                  have hfs72 := blk_frozen BK1213.out 2
                  have hns72_0 := NB1212_1213.out
                  have hns72_2 := NB1220_1213.out
                  have hns72_3 := NB1222_1213.out
                  have hms72_0 := NB1213_1212.out
                  have hms72_2 := NB1213_1220.out
                  have hms72_3 := NB1213_1222.out
                  refine skip_ (w1 := ?_) (by rfl) rfl ?_ ?_
                  rotate_left
                  · go_simp
                    rfl
                  refine hK.out _ _ ⟨((cell_far (p := ⟨gb1213, _, none⟩) NB1220_1213.out _).trans (((cell_far (p := ⟨gb1213, _, none⟩) NB1220_1213.out _).trans (((cell_far (p := ⟨gb1213, _, none⟩) NB1220_1213.out _).trans (hHeld.1)))))), ((cell_far (p := ⟨gb1213, _, none⟩) NB1220_1213.out _).trans (((cell_far (p := ⟨gb1213, _, none⟩) NB1220_1213.out _).trans (((cell_far (p := ⟨gb1213, _, none⟩) NB1220_1213.out _).trans (hHeld.2.1)))))), ((cell_far (p := ⟨gb1213, _, none⟩) NB1220_1213.out _).trans (((cell_far (p := ⟨gb1213, _, none⟩) NB1220_1213.out _).trans (((cell_far (p := ⟨gb1213, _, none⟩) NB1220_1213.out _).trans (hHeld.2.2.1)))))), ((cell_far (p := ⟨gb1213, _, none⟩) NB1222_1213.out _).trans (((cell_far (p := ⟨gb1213, _, none⟩) NB1222_1213.out _).trans (((cell_far (p := ⟨gb1213, _, none⟩) NB1222_1213.out _).trans (hHeld.2.2.2.1)))))), ((cell_far (p := ⟨gb1213, _, none⟩) NB1222_1213.out _).trans (((cell_far (p := ⟨gb1213, _, none⟩) NB1222_1213.out _).trans (((cell_far (p := ⟨gb1213, _, none⟩) NB1222_1213.out _).trans (hHeld.2.2.2.2.1)))))), ((cell_far (p := ⟨gb1213, _, none⟩) NB1222_1213.out _).trans (((cell_far (p := ⟨gb1213, _, none⟩) NB1222_1213.out _).trans (((cell_far (p := ⟨gb1213, _, none⟩) NB1222_1213.out _).trans (hHeld.2.2.2.2.2))))))⟩ (fun hHeld => ?_)
                  clear hK K
                  refine done_ (by kernel_rfl) ?_
                  try go_wp2
                  refine bodyPost_ret (results_cc rfl _ _ gb1212 gb1213 39 39 #[.int .u8 x1221000_2, .int .i64 x1221001_2, .string x1221002_2] #[.int .u8 x1223000_2, .int .i64 x1223001_2, .string x1223002_2] (0, 0) (0, 0) _ _ rfl (by (with_reducible repeat (first | refine blk_drewN ?_ _ | refine blk_drew ?_ | refine blk_alloc ?_ _)); refine blk_far ?_ NB1212_1213.out _; (with_reducible repeat (first | refine blk_drewN ?_ _ | refine blk_drew ?_ | refine blk_alloc ?_ _)); refine blk_far ?_ NB1212_1213.out _; (with_reducible repeat (first | refine blk_drewN ?_ _ | refine blk_drew ?_ | refine blk_alloc ?_ _)); refine blk_far ?_ NB1212_1213.out _; (with_reducible repeat (first | refine blk_drewN ?_ _ | refine blk_drew ?_ | refine blk_alloc ?_ _)); refine blk_put (cs := #[.int .u8 x1221000_2, .int .i64 x1221001_2, .string (⟨#[]⟩ : ByteArray)]) ?_ 2 _ rfl; (with_reducible repeat (first | refine blk_drewN ?_ _ | refine blk_drew ?_ | refine blk_alloc ?_ _)); refine blk_put (cs := #[.int .u8 x1221000_2, .int .i64 0, .string (⟨#[]⟩ : ByteArray)]) ?_ 1 _ rfl; (with_reducible repeat (first | refine blk_drewN ?_ _ | refine blk_drew ?_ | refine blk_alloc ?_ _)); refine blk_put (cs := #[.int .u8 0, .int .i64 0, .string (⟨#[]⟩ : ByteArray)]) ?_ 0 _ rfl; (with_reducible repeat (first | refine blk_drewN ?_ _ | refine blk_drew ?_ | refine blk_alloc ?_ _)); exact BK1212.out) Try.underlying39 rfl (by kernel_rfl) rfl (by (with_reducible repeat (first | refine blk_drewN ?_ _ | refine blk_drew ?_ | refine blk_alloc ?_ _)); refine blk_put (cs := #[.int .u8 x1223000_2, .int .i64 x1223001_2, .string (⟨#[]⟩ : ByteArray)]) ?_ 2 _ rfl; (with_reducible repeat (first | refine blk_drewN ?_ _ | refine blk_drew ?_ | refine blk_alloc ?_ _)); refine blk_put (cs := #[.int .u8 x1223000_2, .int .i64 0, .string (⟨#[]⟩ : ByteArray)]) ?_ 1 _ rfl; (with_reducible repeat (first | refine blk_drewN ?_ _ | refine blk_drew ?_ | refine blk_alloc ?_ _)); refine blk_put (cs := #[.int .u8 0, .int .i64 0, .string (⟨#[]⟩ : ByteArray)]) ?_ 0 _ rfl; (with_reducible repeat (first | refine blk_drewN ?_ _ | refine blk_drew ?_ | refine blk_alloc ?_ _)); refine blk_far ?_ NB1213_1212.out _; (with_reducible repeat (first | refine blk_drewN ?_ _ | refine blk_drew ?_ | refine blk_alloc ?_ _)); refine blk_far ?_ NB1213_1212.out _; (with_reducible repeat (first | refine blk_drewN ?_ _ | refine blk_drew ?_ | refine blk_alloc ?_ _)); refine blk_far ?_ NB1213_1212.out _; (with_reducible repeat (first | refine blk_drewN ?_ _ | refine blk_drew ?_ | refine blk_alloc ?_ _)); exact BK1213.out) Try.underlying39 rfl (by kernel_rfl)) rfl ?_
                  exact ⟨by first | rfl | (simp [errW_none, errW_some] <;> rfl) | (simp [*, errW_none, errW_some] <;> rfl), by repeat (first | (with_reducible first | exact HB.out | apply below_alloc | apply pw_below_drewN | apply below_drew1 | refine below_set ?_ GE1212.out | refine below_set ?_ GE1213.out | refine below_set ?_ GE1220.out | refine below_set ?_ GE1222.out) | exact HB.out)⟩
          · rw [if_neg c14] at H
            exact absurd H (by simp)

end Go.Proofs.Ytlmcefhpnfoahaa.P
end

section
namespace Go.Proofs.Ytlmcefhpnfoahaa.P
open Go.RowKit Go.Proofs.YtlmcefhpnfoahaaW.PrintWords Go.Proofs.YtlmcefhpnfoahaaW.PrintLast Go.Proofs.YtlmcefhpnfoahaaW.PrintMore
attribute [local go_sem] max2_int min2_int max_two min_two max_three min_three max_four min_four   -- for this text's walks alone
set_option linter.unusedVariables false
set_option linter.unusedSimpArgs false

attribute [local go_sem high] eqA39
def tidelinelaw06_ColumnBounds.l0 : Nat → List (S39) → Int → Option (Bool)
  | 0, _, _ => none
  | k + 1, x0, x3 => if x3 < (x0.length : Int) then (if 0 ≤ x3 then ((tidelineref03_May.f ((rd_T39 x0 x3).f0) ((rd_T39 x0 x3).f1) ((rd_T39 x0 x3).f2)).bind fun t1246 => (if t1246 = true then (tidelinelaw06_ColumnBounds.l0 k x0 (wrap64 (x3 + 1))) else ((tidelinelaw06_puts.f).bind fun t1247 => (some t1247)))) else (none)) else ((column_Bounds.f k x0).bind fun bt1228 => ((tidelineref06_Bounds.f k x0).bind fun bt1236 => (if (bt1228.1 == bt1236.1 && (bt1228.2.1 == bt1236.2.1 && (bt1228.2.2.1.toList == bt1236.2.2.1.toList))) = true then (if (bt1228.2.2.2.1 == bt1236.2.2.2.1 && (bt1228.2.2.2.2.1 == bt1236.2.2.2.2.1 && (bt1228.2.2.2.2.2.toList == bt1236.2.2.2.2.2.toList))) = true then ((tidelinelaw06_puts.f).bind fun t1244 => (some t1244)) else (some false)) else (some false))))
def tidelinelaw06_ColumnBounds.f (k : Nat) (l0 : List (S39)) : Option (Bool) := (tidelinelaw06_long.f k l0).bind fun t1227 => (if t1227 = true then (some true) else (tidelinelaw06_ColumnBounds.l0 k l0 0))
set_option maxHeartbeats 8000000 in
set_option maxRecDepth 100000 in
theorem tidelinelaw06_ColumnBounds.calls (k : Nat) (A0 : Option Addr) (c0 : Nat) (l0 : List (S39)) (r : Bool) (w : World) (hr0 : Kd.C k39 w A0 l0.length l0) (hc0 : l0.length ≤ c0) (h : tidelinelaw06_ColumnBounds.f k l0 = some r) :
    Calls Try.prog 22 #[.slice A0 l0.length c0] w fun e w' => e = .returned (.bool r) ∧ Below w.heap.size w w' := by
  have hu39 := Try.underlying39
  have HR0 := Aside0.mk hr0
  have HC0 := Aside0.mk hc0
  clear hr0 hc0
  have HB := Aside0.mk (Below.refl w.heap.size w)
  have H : ((tidelinelaw06_long.f k l0).bind fun t1227 => (if t1227 = true then (some true) else (tidelinelaw06_ColumnBounds.l0 k l0 0))) = some r := h
  clear h
  replace H := Option.bind_eq_some_iff.mp H
  obtain ⟨t1227, A20, H⟩ := H
  replace H : (if t1227 = true then (some true) else (tidelinelaw06_ColumnBounds.l0 k l0 0)) = some r := H
  have A2 := Aside0.mk A20
  clear A20
  by_cases c3 : t1227 = true
  · subst c3
    have H1 : (some true) = some r := by rw [if_pos rfl] at H; exact H
    clear H
    have H := H1
    clear H1
    obtain rfl := Option.some.inj H
    go_enter Try.func22, Try.ntmps22
    go_wp2_with (first | ((with_reducible refine gate_callee (f := 54) rfl ?_); refine goesL_ (some 9) rfl rfl Try.func54 (by kernel_rfl) rfl #[.slice A0 l0.length c0] rfl (by (try simp only [List.map_toArray, List.map_cons, List.map_nil]); first | done | rfl | (simp only [List.length_drop, List.length_take]; rfl)) ?_; (with_reducible refine (tidelinelaw06_long.calls k _ _ l0 true _ ?side1 ?side2 A2.out).mono ?_); (case side1 => repeat (first | exact HR0.out | (with_reducible refine Kd.C_alloc ?_ _) | (with_reducible refine Kd.C_drewN ?_ _) | (with_reducible refine Kd.C_drew ?_))); (case side2 => exact HC0.out); rintro e w' ⟨rfl, ⟨nd, rfl⟩⟩; refine ⟨_, rfl, ?_⟩))
    go_ret
    exact ⟨by first | rfl | (simp [errW_none, errW_some] <;> rfl) | (simp [*, errW_none, errW_some] <;> rfl), by repeat (first | (with_reducible first | exact HB.out | apply below_alloc | apply pw_below_drewN | apply below_drew1) | exact HB.out)⟩
  · replace c3 := Bool.eq_false_iff.mpr c3
    subst c3
    have H1 : (tidelinelaw06_ColumnBounds.l0 k l0 0) = some r := by rw [if_neg (show ¬ (false = true) by decide)] at H; exact H
    clear H
    have H := H1
    clear H1
    have H' := Aside0.mk H
    clear H
    go_enter Try.func22, Try.ntmps22
    go_wp2_with (first | ((with_reducible refine gate_callee (f := 54) rfl ?_); refine goesL_ (some 9) rfl rfl Try.func54 (by kernel_rfl) rfl #[.slice A0 l0.length c0] rfl (by (try simp only [List.map_toArray, List.map_cons, List.map_nil]); first | done | rfl | (simp only [List.length_drop, List.length_take]; rfl)) ?_; (with_reducible refine (tidelinelaw06_long.calls k _ _ l0 false _ ?side1 ?side2 A2.out).mono ?_); (case side1 => repeat (first | exact HR0.out | (with_reducible refine Kd.C_alloc ?_ _) | (with_reducible refine Kd.C_drewN ?_ _) | (with_reducible refine Kd.C_drew ?_))); (case side2 => exact HC0.out); rintro e w' ⟨rfl, ⟨nd, rfl⟩⟩; refine ⟨_, rfl, ?_⟩))
    go_loopg [3] k (fun kq v3 w' => ∃ (x3_1 : Int), v3 = .int .i64 x3_1 ∧ Aside0 (tidelinelaw06_ColumnBounds.l0 kq l0 x3_1 = some r) ∧ Aside0 (kq ≤ k) ∧ Aside0 (Below w.heap.size w w'))
    case atStart => exact ⟨(0), (by first | rfl | (simp; done) | (simp [*]; done)), H', ⟨Nat.le_refl _⟩, ⟨by repeat (first | (with_reducible first | exact HB.out | apply below_alloc | apply pw_below_drewN | apply below_drew1) | exact HB.out)⟩⟩
    case round =>
      clear H'
      try clear c2
      try clear p2
      try clear c3
      obtain ⟨x3_1, rfl, HA, HK1, HB⟩ := hrel
      cases gk with
      | zero => exact absurd HA.out (by simp [tidelinelaw06_ColumnBounds.l0])
      | succ k1 =>
        have H := HA.out
        clear HA
        simp only [tidelinelaw06_ColumnBounds.l0] at H
        by_cases c4 : x3_1 < (l0.length : Int)
        · rw [if_pos c4] at H
          have c4b0 : decide (x3_1 < (l0.length : Int)) = true := decide_eq_true c4
          clear c4
          by_cases c5 : 0 ≤ x3_1
          · rw [if_pos c5] at H
            have c5b0 : decide (0 ≤ x3_1) = true := decide_eq_true c5
            clear c5
            replace H := Option.bind_eq_some_iff.mp H
            obtain ⟨t1246, A60, H⟩ := H
            replace H : (if t1246 = true then (tidelinelaw06_ColumnBounds.l0 k1 l0 (wrap64 (x3_1 + 1))) else ((tidelinelaw06_puts.f).bind fun t1247 => (some t1247))) = some r := H
            have A6 := Aside0.mk A60
            clear A60
            by_cases c7 : t1246 = true
            · subst c7
              have H1 : (tidelinelaw06_ColumnBounds.l0 k1 l0 (wrap64 (x3_1 + 1))) = some r := by rw [if_pos rfl] at H; exact H
              clear H
              have H := H1
              clear H1
              have H' := Aside0.mk H
              clear H
              have p1245 : 0 ≤ (x3_1 : Int) := of_decide_eq_true (by first | (with_reducible assumption) | assumption)
              have q1245 : x3_1 < (l0.length : Int) := of_decide_eq_true (by first | (with_reducible assumption) | assumption)
              obtain ⟨ad1245, e1245, hx1245_0, hx1245_1, hx1245_2⟩ := at_T39 HR0.out x3_1 p1245 q1245
              cases e1245
              replace hx1245_0 := (HB.out.cell (World.block_lt_of_cell? w _ hx1245_0)).trans hx1245_0
              replace hx1245_1 := (HB.out.cell (World.block_lt_of_cell? w _ hx1245_1)).trans hx1245_1
              replace hx1245_2 := (HB.out.cell (World.block_lt_of_cell? w _ hx1245_2)).trans hx1245_2
              replace p1245 := eq_true p1245
              replace q1245 := eq_true q1245
              go_wp2_with (first | ((with_reducible refine gate_callee (f := 61) rfl ?_); refine goesL_ (some 20) rfl rfl Try.func61 (by kernel_rfl) rfl #[.agg #[.int .u8 ((rd_T39 l0 x3_1).f0), .int .i64 ((rd_T39 l0 x3_1).f1), .string ((rd_T39 l0 x3_1).f2)]] rfl (by (try simp only [List.map_toArray, List.map_cons, List.map_nil]); first | done | rfl | (simp only [List.length_drop, List.length_take]; rfl)) ?_; (with_reducible refine (tidelineref03_May.calls ((rd_T39 l0 x3_1).f0) ((rd_T39 l0 x3_1).f1) ((rd_T39 l0 x3_1).f2) true _ A6.out).mono ?_); rintro e w8 ⟨rfl, hb⟩; refine ⟨_, rfl, ?_⟩; have n0_ := Aside0.mk (below_step (by repeat (first | (with_reducible first | exact HB.out | apply below_alloc | apply pw_below_drewN | apply below_drew1) | exact HB.out)) hb); clear HB; have HB := n0_; clear n0_; (try clear hb); (try clear hb2); (try clear hk); (try clear hi)))
              go_roundg k1
              case measure => have := HK1.out; omega
              case rel => exact ⟨(wrap64 (x3_1 + 1)), (by first | rfl | (simp; done) | (simp [*]; done)), H', ⟨by have := HK1.out; omega⟩, ⟨by repeat (first | (with_reducible first | exact HB.out | apply below_alloc | apply pw_below_drewN | apply below_drew1) | exact HB.out)⟩⟩
            · replace c7 := Bool.eq_false_iff.mpr c7
              subst c7
              have H1 : ((tidelinelaw06_puts.f).bind fun t1247 => (some t1247)) = some r := by rw [if_neg (show ¬ (false = true) by decide)] at H; exact H
              clear H
              have H := H1
              clear H1
              replace H := Option.bind_eq_some_iff.mp H
              obtain ⟨t1247, A90, H⟩ := H
              replace H : (some t1247) = some r := H
              have A9 := Aside0.mk A90
              clear A90
              obtain rfl := Option.some.inj H
              have p1245 : 0 ≤ (x3_1 : Int) := of_decide_eq_true (by first | (with_reducible assumption) | assumption)
              have q1245 : x3_1 < (l0.length : Int) := of_decide_eq_true (by first | (with_reducible assumption) | assumption)
              obtain ⟨ad1245, e1245, hx1245_0, hx1245_1, hx1245_2⟩ := at_T39 HR0.out x3_1 p1245 q1245
              cases e1245
              replace hx1245_0 := (HB.out.cell (World.block_lt_of_cell? w _ hx1245_0)).trans hx1245_0
              replace hx1245_1 := (HB.out.cell (World.block_lt_of_cell? w _ hx1245_1)).trans hx1245_1
              replace hx1245_2 := (HB.out.cell (World.block_lt_of_cell? w _ hx1245_2)).trans hx1245_2
              replace p1245 := eq_true p1245
              replace q1245 := eq_true q1245
              go_wp2_with (first | ((with_reducible refine gate_callee (f := 61) rfl ?_); refine goesL_ (some 20) rfl rfl Try.func61 (by kernel_rfl) rfl #[.agg #[.int .u8 ((rd_T39 l0 x3_1).f0), .int .i64 ((rd_T39 l0 x3_1).f1), .string ((rd_T39 l0 x3_1).f2)]] rfl (by (try simp only [List.map_toArray, List.map_cons, List.map_nil]); first | done | rfl | (simp only [List.length_drop, List.length_take]; rfl)) ?_; (with_reducible refine (tidelineref03_May.calls ((rd_T39 l0 x3_1).f0) ((rd_T39 l0 x3_1).f1) ((rd_T39 l0 x3_1).f2) false _ A6.out).mono ?_); rintro e w10 ⟨rfl, hb⟩; refine ⟨_, rfl, ?_⟩; have n0_ := Aside0.mk (below_step (by repeat (first | (with_reducible first | exact HB.out | apply below_alloc | apply pw_below_drewN | apply below_drew1) | exact HB.out)) hb); clear HB; have HB := n0_; clear n0_; (try clear hb); (try clear hb2); (try clear hk); (try clear hi)) | ((with_reducible refine gate_callee (f := 57) rfl ?_); refine goesL_ (some 22) rfl rfl Try.func57 (by kernel_rfl) rfl #[] rfl (by (try simp only [List.map_toArray, List.map_cons, List.map_nil]); first | done | rfl | (simp only [List.length_drop, List.length_take]; rfl)) ?_; (with_reducible refine (tidelinelaw06_puts.calls  t1247 _ A9.out).mono ?_); rintro e w11 ⟨rfl, hb⟩; refine ⟨_, rfl, ?_⟩; have n0_ := Aside0.mk (below_step (by repeat (first | (with_reducible first | exact HB.out | apply below_alloc | apply pw_below_drewN | apply below_drew1) | exact HB.out)) hb); clear HB; have HB := n0_; clear n0_; (try clear hb); (try clear hb2); (try clear hk); (try clear hi)))
              go_ret
              exact ⟨by first | rfl | (simp [errW_none, errW_some] <;> rfl) | (simp [*, errW_none, errW_some] <;> rfl), by repeat (first | (with_reducible first | exact HB.out | apply below_alloc | apply pw_below_drewN | apply below_drew1) | exact HB.out)⟩
          · rw [if_neg c5] at H
            exact absurd H (by simp)
        · rw [if_neg c4] at H
          have c4b0 : decide (x3_1 < (l0.length : Int)) = false := decide_eq_false c4
          clear c4
          replace H := Option.bind_eq_some_iff.mp H
          obtain ⟨⟨t1228, t1229, t1230, t1231, t1232, t1233⟩, A120, H⟩ := H
          replace H : ((tidelineref06_Bounds.f k1 l0).bind fun bt1236 => (if (t1228 == bt1236.1 && (t1229 == bt1236.2.1 && (t1230.toList == bt1236.2.2.1.toList))) = true then (if (t1231 == bt1236.2.2.2.1 && (t1232 == bt1236.2.2.2.2.1 && (t1233.toList == bt1236.2.2.2.2.2.toList))) = true then ((tidelinelaw06_puts.f).bind fun t1244 => (some t1244)) else (some false)) else (some false))) = some r := H
          have A12 := Aside0.mk A120
          clear A120
          replace H := Option.bind_eq_some_iff.mp H
          obtain ⟨⟨t1236, t1237, t1238, t1239, t1240, t1241⟩, A130, H⟩ := H
          replace H : (if (t1228 == t1236 && (t1229 == t1237 && (t1230.toList == t1238.toList))) = true then (if (t1231 == t1239 && (t1232 == t1240 && (t1233.toList == t1241.toList))) = true then ((tidelinelaw06_puts.f).bind fun t1244 => (some t1244)) else (some false)) else (some false)) = some r := H
          have A13 := Aside0.mk A130
          clear A130
          by_cases c14 : (t1228 == t1236 && (t1229 == t1237 && (t1230.toList == t1238.toList))) = true
          · rw [if_pos c14] at H
            have c14b0 : (t1228 == t1236 && (t1229 == t1237 && (t1230.toList == t1238.toList))) = true := c14
            (try (have c14b1 : decide (t1228 = t1236 && (t1229 == t1237 && (t1230.toList == t1238.toList))) = true := by simpa using c14))
            (try (have c14b2 : (t1228 == t1236 && (t1229 == t1237 && (t1230.toList == t1238.toList))) = true := by simpa using c14))
            clear c14
            by_cases c15 : (t1231 == t1239 && (t1232 == t1240 && (t1233.toList == t1241.toList))) = true
            · rw [if_pos c15] at H
              have c15b0 : (t1231 == t1239 && (t1232 == t1240 && (t1233.toList == t1241.toList))) = true := c15
              (try (have c15b1 : decide (t1231 = t1239 && (t1232 == t1240 && (t1233.toList == t1241.toList))) = true := by simpa using c15))
              (try (have c15b2 : (t1231 == t1239 && (t1232 == t1240 && (t1233.toList == t1241.toList))) = true := by simpa using c15))
              clear c15
              replace H := Option.bind_eq_some_iff.mp H
              obtain ⟨t1244, A160, H⟩ := H
              replace H : (some t1244) = some r := H
              have A16 := Aside0.mk A160
              clear A160
              obtain rfl := Option.some.inj H
              go_wp2_with (first | ((with_reducible refine gate_callee (f := 62) rfl ?_); refine goesL_ (some 25) rfl rfl Try.func62 (by kernel_rfl) rfl #[.slice A0 l0.length c0] rfl (by (try simp only [List.map_toArray, List.map_cons, List.map_nil]); first | done | rfl | (simp only [List.length_drop, List.length_take]; rfl)) ?_; (with_reducible refine (column_Bounds.calls k1 _ _ l0 t1228 t1229 t1230 t1231 t1232 t1233 _ ?side1 ?side2 A12.out).mono ?_); (case side1 => repeat (first | exact (Kd.C_below HR0.out HB.out) | (with_reducible refine Kd.C_alloc ?_ _) | (with_reducible refine Kd.C_drewN ?_ _) | (with_reducible refine Kd.C_drew ?_))); (case side2 => exact HC0.out); rintro e w17 ⟨rfl, hb⟩; refine ⟨_, rfl, ?_⟩; have n0_ := Aside0.mk (below_step (by repeat (first | (with_reducible first | exact HB.out | apply below_alloc | apply pw_below_drewN | apply below_drew1) | exact HB.out)) hb); clear HB; have HB := n0_; clear n0_; (try clear hb); (try clear hb2); (try clear hk); (try clear hi)) | ((with_reducible refine gate_dst (N := 4) rfl ?_); refine box_event ?hg (N := 4) ?hd (cs := #[.int .u8 0, .int .i64 0, .string (⟨#[]⟩ : ByteArray)]) (t := 39) ?hr ?_; (case hd => rfl); (case hg => rfl); (case hr => first | (go_simp; done) | (go_simp; rfl)); intro gb1234 hg w18 hbox hb; have n0_ := Aside0.mk (below_step (by repeat (first | (with_reducible first | exact HB.out | apply below_alloc | apply pw_below_drewN | apply below_drew1) | exact HB.out)) hb); have n1_ := Aside0.mk (hbox); have n2_ := Aside0.mk ((by rw [hg]; exact (below_size (by repeat (first | (with_reducible first | exact HB.out | apply below_alloc | apply pw_below_drewN | apply below_drew1) | exact HB.out))) : w.heap.size ≤ gb1234)); have n3_ := Aside0.mk ((by rw [hg]; exact (below_size (by repeat (first | (with_reducible first | exact HB.out | apply below_alloc | apply pw_below_drewN | apply below_drew1) | exact HB.out))) : w.heap.size ≤ gb1234)); clear HB; have HB := n0_; have BK1234 := n1_; have GW1234 := n2_; have GE1234 := n3_; clear n0_ n1_ n2_ n3_; clear hb hbox hg) | ((with_reducible refine gate_dst (N := 5) rfl ?_); refine box_event ?hg (N := 5) ?hd (cs := #[.int .u8 0, .int .i64 0, .string (⟨#[]⟩ : ByteArray)]) (t := 39) ?hr ?_; (case hd => rfl); (case hg => rfl); (case hr => first | (go_simp; done) | (go_simp; rfl)); intro gb1235 hg w19 hbox hb; have n0_ := Aside0.mk (blk_below (g := gb1234) (o := .cells #[.int .u8 0, .int .i64 0, .string (⟨#[]⟩ : ByteArray)] 39 (0, 0)) (by (with_reducible repeat (first | refine blk_drewN ?_ _ | refine blk_drew ?_ | refine blk_alloc ?_ _)); exact BK1234.out) hb); have n1_ := Aside0.mk (below_step (by repeat (first | (with_reducible first | exact HB.out | apply below_alloc | apply pw_below_drewN | apply below_drew1 | refine below_set ?_ GE1234.out) | exact HB.out)) hb); have n2_ := Aside0.mk (hbox); have n3_ := Aside0.mk ((by rw [hg]; exact (below_size (by repeat (first | (with_reducible first | exact HB.out | apply below_alloc | apply pw_below_drewN | apply below_drew1 | refine below_set ?_ GE1234.out) | exact HB.out))) : w.heap.size ≤ gb1235)); have n4_ := Aside0.mk ((by rw [hg]; exact (below_size (by repeat (first | (with_reducible first | exact HB.out | apply below_alloc | apply pw_below_drewN | apply below_drew1 | refine below_set ?_ GE1234.out) | exact HB.out))) : w.heap.size ≤ gb1235)); have n5_ := Aside0.mk ((by rw [hg]; exact Nat.ne_of_lt (blk_lt (g := gb1234) (o := .cells #[.int .u8 0, .int .i64 0, .string (⟨#[]⟩ : ByteArray)] 39 (0, 0)) (by (with_reducible repeat (first | refine blk_drewN ?_ _ | refine blk_drew ?_ | refine blk_alloc ?_ _)); exact BK1234.out)) : gb1234 ≠ gb1235)); have n6_ := Aside0.mk ((by rw [hg]; exact Nat.ne_of_gt (blk_lt (g := gb1234) (o := .cells #[.int .u8 0, .int .i64 0, .string (⟨#[]⟩ : ByteArray)] 39 (0, 0)) (by (with_reducible repeat (first | refine blk_drewN ?_ _ | refine blk_drew ?_ | refine blk_alloc ?_ _)); exact BK1234.out)) : gb1235 ≠ gb1234)); clear BK1234; clear HB; have BK1234 := n0_; have HB := n1_; have BK1235 := n2_; have GW1235 := n3_; have GE1235 := n4_; have NB1234_1235 := n5_; have NB1235_1234 := n6_; clear n0_ n1_ n2_ n3_ n4_ n5_ n6_; clear hb hbox hg; have hnb20 := NB1234_1235.out; have hnc20 := NB1235_1234.out; have hcz21_0 : w19.cell? ⟨gb1234, 0, none⟩ = some (.int .u8 0) := (blk_cell BK1234.out 0).trans rfl; have hcz21_1 : w19.cell? ⟨gb1234, 1, none⟩ = some (.int .i64 0) := (blk_cell BK1234.out 1).trans rfl; have hcz21_2 : w19.cell? ⟨gb1234, 2, none⟩ = some (.string (⟨#[]⟩ : ByteArray)) := (blk_cell BK1234.out 2).trans rfl; have hfz21_0 := blk_frozen BK1234.out 0; have hfz21_1 := blk_frozen BK1234.out 1; have hfz21_2 := blk_frozen BK1234.out 2; have hcz22_0 : w19.cell? ⟨gb1235, 0, none⟩ = some (.int .u8 0) := (blk_cell BK1235.out 0).trans rfl; have hcz22_1 : w19.cell? ⟨gb1235, 1, none⟩ = some (.int .i64 0) := (blk_cell BK1235.out 1).trans rfl; have hcz22_2 : w19.cell? ⟨gb1235, 2, none⟩ = some (.string (⟨#[]⟩ : ByteArray)) := (blk_cell BK1235.out 2).trans rfl; have hfz22_0 := blk_frozen BK1235.out 0; have hfz22_1 := blk_frozen BK1235.out 1; have hfz22_2 := blk_frozen BK1235.out 2) | ((with_reducible refine gate_callee (f := 63) rfl ?_); refine goesL_ (some 30) rfl rfl Try.func63 (by kernel_rfl) rfl #[.slice A0 l0.length c0] rfl (by (try simp only [List.map_toArray, List.map_cons, List.map_nil]); first | done | rfl | (simp only [List.length_drop, List.length_take]; rfl)) ?_; (with_reducible refine (tidelineref06_Bounds.calls k1 _ _ l0 t1236 t1237 t1238 t1239 t1240 t1241 _ ?side1 ?side2 A13.out).mono ?_); (case side1 => exact Kd.C_below HR0.out (by repeat (first | (with_reducible first | exact HB.out | apply below_alloc | apply pw_below_drewN | apply below_drew1 | refine below_set ?_ GE1234.out | refine below_set ?_ GE1235.out) | exact HB.out))); (case side2 => exact HC0.out); rintro e w23 ⟨rfl, hb⟩; refine ⟨_, rfl, ?_⟩; have n0_ := Aside0.mk (blk_below (g := gb1234) (o := .cells #[.int .u8 t1228, .int .i64 t1229, .string t1230] 39 (0, 0)) (by (with_reducible repeat (first | refine blk_drewN ?_ _ | refine blk_drew ?_ | refine blk_alloc ?_ _)); refine blk_far ?_ NB1234_1235.out _; (with_reducible repeat (first | refine blk_drewN ?_ _ | refine blk_drew ?_ | refine blk_alloc ?_ _)); refine blk_far ?_ NB1234_1235.out _; (with_reducible repeat (first | refine blk_drewN ?_ _ | refine blk_drew ?_ | refine blk_alloc ?_ _)); refine blk_far ?_ NB1234_1235.out _; (with_reducible repeat (first | refine blk_drewN ?_ _ | refine blk_drew ?_ | refine blk_alloc ?_ _)); refine blk_put (cs := #[.int .u8 t1228, .int .i64 t1229, .string (⟨#[]⟩ : ByteArray)]) ?_ 2 _ rfl; (with_reducible repeat (first | refine blk_drewN ?_ _ | refine blk_drew ?_ | refine blk_alloc ?_ _)); refine blk_put (cs := #[.int .u8 t1228, .int .i64 0, .string (⟨#[]⟩ : ByteArray)]) ?_ 1 _ rfl; (with_reducible repeat (first | refine blk_drewN ?_ _ | refine blk_drew ?_ | refine blk_alloc ?_ _)); refine blk_put (cs := #[.int .u8 0, .int .i64 0, .string (⟨#[]⟩ : ByteArray)]) ?_ 0 _ rfl; (with_reducible repeat (first | refine blk_drewN ?_ _ | refine blk_drew ?_ | refine blk_alloc ?_ _)); exact BK1234.out) hb); have n1_ := Aside0.mk (blk_below (g := gb1235) (o := .cells #[.int .u8 t1231, .int .i64 t1232, .string t1233] 39 (0, 0)) (by (with_reducible repeat (first | refine blk_drewN ?_ _ | refine blk_drew ?_ | refine blk_alloc ?_ _)); refine blk_put (cs := #[.int .u8 t1231, .int .i64 t1232, .string (⟨#[]⟩ : ByteArray)]) ?_ 2 _ rfl; (with_reducible repeat (first | refine blk_drewN ?_ _ | refine blk_drew ?_ | refine blk_alloc ?_ _)); refine blk_put (cs := #[.int .u8 t1231, .int .i64 0, .string (⟨#[]⟩ : ByteArray)]) ?_ 1 _ rfl; (with_reducible repeat (first | refine blk_drewN ?_ _ | refine blk_drew ?_ | refine blk_alloc ?_ _)); refine blk_put (cs := #[.int .u8 0, .int .i64 0, .string (⟨#[]⟩ : ByteArray)]) ?_ 0 _ rfl; (with_reducible repeat (first | refine blk_drewN ?_ _ | refine blk_drew ?_ | refine blk_alloc ?_ _)); refine blk_far ?_ NB1235_1234.out _; (with_reducible repeat (first | refine blk_drewN ?_ _ | refine blk_drew ?_ | refine blk_alloc ?_ _)); refine blk_far ?_ NB1235_1234.out _; (with_reducible repeat (first | refine blk_drewN ?_ _ | refine blk_drew ?_ | refine blk_alloc ?_ _)); refine blk_far ?_ NB1235_1234.out _; (with_reducible repeat (first | refine blk_drewN ?_ _ | refine blk_drew ?_ | refine blk_alloc ?_ _)); exact BK1235.out) hb); have n2_ := Aside0.mk (below_step (by repeat (first | (with_reducible first | exact HB.out | apply below_alloc | apply pw_below_drewN | apply below_drew1 | refine below_set ?_ GE1234.out | refine below_set ?_ GE1235.out) | exact HB.out)) hb); clear BK1234; clear BK1235; clear HB; have BK1234 := n0_; have BK1235 := n1_; have HB := n2_; clear n0_ n1_ n2_; (try clear hb); (try clear hb2); (try clear hk); (try clear hi)) | ((with_reducible refine gate_dst (N := 6) rfl ?_); refine box_event ?hg (N := 6) ?hd (cs := #[.int .u8 0, .int .i64 0, .string (⟨#[]⟩ : ByteArray)]) (t := 39) ?hr ?_; (case hd => rfl); (case hg => rfl); (case hr => first | (go_simp; done) | (go_simp; rfl)); intro gb1242 hg w24 hbox hb; have n0_ := Aside0.mk (blk_below (g := gb1234) (o := .cells #[.int .u8 t1228, .int .i64 t1229, .string t1230] 39 (0, 0)) (by (with_reducible repeat (first | refine blk_drewN ?_ _ | refine blk_drew ?_ | refine blk_alloc ?_ _)); exact BK1234.out) hb); have n1_ := Aside0.mk (blk_below (g := gb1235) (o := .cells #[.int .u8 t1231, .int .i64 t1232, .string t1233] 39 (0, 0)) (by (with_reducible repeat (first | refine blk_drewN ?_ _ | refine blk_drew ?_ | refine blk_alloc ?_ _)); exact BK1235.out) hb); have n2_ := Aside0.mk (below_step (by repeat (first | (with_reducible first | exact HB.out | apply below_alloc | apply pw_below_drewN | apply below_drew1 | refine below_set ?_ GE1234.out | refine below_set ?_ GE1235.out) | exact HB.out)) hb); have n3_ := Aside0.mk (hbox); have n4_ := Aside0.mk ((by rw [hg]; exact (below_size (by repeat (first | (with_reducible first | exact HB.out | apply below_alloc | apply pw_below_drewN | apply below_drew1 | refine below_set ?_ GE1234.out | refine below_set ?_ GE1235.out) | exact HB.out))) : w.heap.size ≤ gb1242)); have n5_ := Aside0.mk ((by rw [hg]; exact (below_size (by repeat (first | (with_reducible first | exact HB.out | apply below_alloc | apply pw_below_drewN | apply below_drew1 | refine below_set ?_ GE1234.out | refine below_set ?_ GE1235.out) | exact HB.out))) : w.heap.size ≤ gb1242)); have n6_ := Aside0.mk ((by rw [hg]; exact Nat.ne_of_lt (blk_lt (g := gb1234) (o := .cells #[.int .u8 t1228, .int .i64 t1229, .string t1230] 39 (0, 0)) (by (with_reducible repeat (first | refine blk_drewN ?_ _ | refine blk_drew ?_ | refine blk_alloc ?_ _)); exact BK1234.out)) : gb1234 ≠ gb1242)); have n7_ := Aside0.mk ((by rw [hg]; exact Nat.ne_of_gt (blk_lt (g := gb1234) (o := .cells #[.int .u8 t1228, .int .i64 t1229, .string t1230] 39 (0, 0)) (by (with_reducible repeat (first | refine blk_drewN ?_ _ | refine blk_drew ?_ | refine blk_alloc ?_ _)); exact BK1234.out)) : gb1242 ≠ gb1234)); have n8_ := Aside0.mk ((by rw [hg]; exact Nat.ne_of_lt (blk_lt (g := gb1235) (o := .cells #[.int .u8 t1231, .int .i64 t1232, .string t1233] 39 (0, 0)) (by (with_reducible repeat (first | refine blk_drewN ?_ _ | refine blk_drew ?_ | refine blk_alloc ?_ _)); exact BK1235.out)) : gb1235 ≠ gb1242)); have n9_ := Aside0.mk ((by rw [hg]; exact Nat.ne_of_gt (blk_lt (g := gb1235) (o := .cells #[.int .u8 t1231, .int .i64 t1232, .string t1233] 39 (0, 0)) (by (with_reducible repeat (first | refine blk_drewN ?_ _ | refine blk_drew ?_ | refine blk_alloc ?_ _)); exact BK1235.out)) : gb1242 ≠ gb1235)); clear BK1234; clear BK1235; clear HB; have BK1234 := n0_; have BK1235 := n1_; have HB := n2_; have BK1242 := n3_; have GW1242 := n4_; have GE1242 := n5_; have NB1234_1242 := n6_; have NB1242_1234 := n7_; have NB1235_1242 := n8_; have NB1242_1235 := n9_; clear n0_ n1_ n2_ n3_ n4_ n5_ n6_ n7_ n8_ n9_; clear hb hbox hg) | ((with_reducible refine gate_dst (N := 7) rfl ?_); refine box_event ?hg (N := 7) ?hd (cs := #[.int .u8 0, .int .i64 0, .string (⟨#[]⟩ : ByteArray)]) (t := 39) ?hr ?_; (case hd => rfl); (case hg => rfl); (case hr => first | (go_simp; done) | (go_simp; rfl)); intro gb1243 hg w25 hbox hb; have n0_ := Aside0.mk (blk_below (g := gb1234) (o := .cells #[.int .u8 t1228, .int .i64 t1229, .string t1230] 39 (0, 0)) (by (with_reducible repeat (first | refine blk_drewN ?_ _ | refine blk_drew ?_ | refine blk_alloc ?_ _)); exact BK1234.out) hb); have n1_ := Aside0.mk (blk_below (g := gb1235) (o := .cells #[.int .u8 t1231, .int .i64 t1232, .string t1233] 39 (0, 0)) (by (with_reducible repeat (first | refine blk_drewN ?_ _ | refine blk_drew ?_ | refine blk_alloc ?_ _)); exact BK1235.out) hb); have n2_ := Aside0.mk (blk_below (g := gb1242) (o := .cells #[.int .u8 0, .int .i64 0, .string (⟨#[]⟩ : ByteArray)] 39 (0, 0)) (by (with_reducible repeat (first | refine blk_drewN ?_ _ | refine blk_drew ?_ | refine blk_alloc ?_ _)); exact BK1242.out) hb); have n3_ := Aside0.mk (below_step (by repeat (first | (with_reducible first | exact HB.out | apply below_alloc | apply pw_below_drewN | apply below_drew1 | refine below_set ?_ GE1234.out | refine below_set ?_ GE1235.out | refine below_set ?_ GE1242.out) | exact HB.out)) hb); have n4_ := Aside0.mk (hbox); have n5_ := Aside0.mk ((by rw [hg]; exact (below_size (by repeat (first | (with_reducible first | exact HB.out | apply below_alloc | apply pw_below_drewN | apply below_drew1 | refine below_set ?_ GE1234.out | refine below_set ?_ GE1235.out | refine below_set ?_ GE1242.out) | exact HB.out))) : w.heap.size ≤ gb1243)); have n6_ := Aside0.mk ((by rw [hg]; exact (below_size (by repeat (first | (with_reducible first | exact HB.out | apply below_alloc | apply pw_below_drewN | apply below_drew1 | refine below_set ?_ GE1234.out | refine below_set ?_ GE1235.out | refine below_set ?_ GE1242.out) | exact HB.out))) : w.heap.size ≤ gb1243)); have n7_ := Aside0.mk ((by rw [hg]; exact Nat.ne_of_lt (blk_lt (g := gb1234) (o := .cells #[.int .u8 t1228, .int .i64 t1229, .string t1230] 39 (0, 0)) (by (with_reducible repeat (first | refine blk_drewN ?_ _ | refine blk_drew ?_ | refine blk_alloc ?_ _)); exact BK1234.out)) : gb1234 ≠ gb1243)); have n8_ := Aside0.mk ((by rw [hg]; exact Nat.ne_of_gt (blk_lt (g := gb1234) (o := .cells #[.int .u8 t1228, .int .i64 t1229, .string t1230] 39 (0, 0)) (by (with_reducible repeat (first | refine blk_drewN ?_ _ | refine blk_drew ?_ | refine blk_alloc ?_ _)); exact BK1234.out)) : gb1243 ≠ gb1234)); have n9_ := Aside0.mk ((by rw [hg]; exact Nat.ne_of_lt (blk_lt (g := gb1235) (o := .cells #[.int .u8 t1231, .int .i64 t1232, .string t1233] 39 (0, 0)) (by (with_reducible repeat (first | refine blk_drewN ?_ _ | refine blk_drew ?_ | refine blk_alloc ?_ _)); exact BK1235.out)) : gb1235 ≠ gb1243)); have n10_ := Aside0.mk ((by rw [hg]; exact Nat.ne_of_gt (blk_lt (g := gb1235) (o := .cells #[.int .u8 t1231, .int .i64 t1232, .string t1233] 39 (0, 0)) (by (with_reducible repeat (first | refine blk_drewN ?_ _ | refine blk_drew ?_ | refine blk_alloc ?_ _)); exact BK1235.out)) : gb1243 ≠ gb1235)); have n11_ := Aside0.mk ((by rw [hg]; exact Nat.ne_of_lt (blk_lt (g := gb1242) (o := .cells #[.int .u8 0, .int .i64 0, .string (⟨#[]⟩ : ByteArray)] 39 (0, 0)) (by (with_reducible repeat (first | refine blk_drewN ?_ _ | refine blk_drew ?_ | refine blk_alloc ?_ _)); exact BK1242.out)) : gb1242 ≠ gb1243)); have n12_ := Aside0.mk ((by rw [hg]; exact Nat.ne_of_gt (blk_lt (g := gb1242) (o := .cells #[.int .u8 0, .int .i64 0, .string (⟨#[]⟩ : ByteArray)] 39 (0, 0)) (by (with_reducible repeat (first | refine blk_drewN ?_ _ | refine blk_drew ?_ | refine blk_alloc ?_ _)); exact BK1242.out)) : gb1243 ≠ gb1242)); clear BK1234; clear BK1235; clear BK1242; clear HB; have BK1234 := n0_; have BK1235 := n1_; have BK1242 := n2_; have HB := n3_; have BK1243 := n4_; have GW1243 := n5_; have GE1243 := n6_; have NB1234_1243 := n7_; have NB1243_1234 := n8_; have NB1235_1243 := n9_; have NB1243_1235 := n10_; have NB1242_1243 := n11_; have NB1243_1242 := n12_; clear n0_ n1_ n2_ n3_ n4_ n5_ n6_ n7_ n8_ n9_ n10_ n11_ n12_; clear hb hbox hg; have hnb26 := NB1242_1234.out; have hnc26 := NB1234_1242.out; have hnb27 := NB1242_1235.out; have hnc27 := NB1235_1242.out; have hnb28 := NB1242_1243.out; have hnc28 := NB1243_1242.out; have hcz29_0 : w25.cell? ⟨gb1242, 0, none⟩ = some (.int .u8 0) := (blk_cell BK1242.out 0).trans rfl; have hcz29_1 : w25.cell? ⟨gb1242, 1, none⟩ = some (.int .i64 0) := (blk_cell BK1242.out 1).trans rfl; have hcz29_2 : w25.cell? ⟨gb1242, 2, none⟩ = some (.string (⟨#[]⟩ : ByteArray)) := (blk_cell BK1242.out 2).trans rfl; have hfz29_0 := blk_frozen BK1242.out 0; have hfz29_1 := blk_frozen BK1242.out 1; have hfz29_2 := blk_frozen BK1242.out 2; have hnb30 := NB1243_1234.out; have hnc30 := NB1234_1243.out; have hnb31 := NB1243_1235.out; have hnc31 := NB1235_1243.out; have hcz32_0 : w25.cell? ⟨gb1243, 0, none⟩ = some (.int .u8 0) := (blk_cell BK1243.out 0).trans rfl; have hcz32_1 : w25.cell? ⟨gb1243, 1, none⟩ = some (.int .i64 0) := (blk_cell BK1243.out 1).trans rfl; have hcz32_2 : w25.cell? ⟨gb1243, 2, none⟩ = some (.string (⟨#[]⟩ : ByteArray)) := (blk_cell BK1243.out 2).trans rfl; have hfz32_0 := blk_frozen BK1243.out 0; have hfz32_1 := blk_frozen BK1243.out 1; have hfz32_2 := blk_frozen BK1243.out 2; have hcz33_0 : w25.cell? ⟨gb1234, 0, none⟩ = some (.int .u8 t1228) := (blk_cell BK1234.out 0).trans rfl; have hcz33_1 : w25.cell? ⟨gb1234, 1, none⟩ = some (.int .i64 t1229) := (blk_cell BK1234.out 1).trans rfl; have hcz33_2 : w25.cell? ⟨gb1234, 2, none⟩ = some (.string t1230) := (blk_cell BK1234.out 2).trans rfl; have hfz33_0 := blk_frozen BK1234.out 0; have hfz33_1 := blk_frozen BK1234.out 1; have hfz33_2 := blk_frozen BK1234.out 2; have hcz34_0 : w25.cell? ⟨gb1235, 0, none⟩ = some (.int .u8 t1231) := (blk_cell BK1235.out 0).trans rfl; have hcz34_1 : w25.cell? ⟨gb1235, 1, none⟩ = some (.int .i64 t1232) := (blk_cell BK1235.out 1).trans rfl; have hcz34_2 : w25.cell? ⟨gb1235, 2, none⟩ = some (.string t1233) := (blk_cell BK1235.out 2).trans rfl; have hfz34_0 := blk_frozen BK1235.out 0; have hfz34_1 := blk_frozen BK1235.out 1; have hfz34_2 := blk_frozen BK1235.out 2) | (go_at_call 57; (with_reducible refine (tidelinelaw06_puts.calls  t1244 _ A16.out).mono ?_); rintro e w35 ⟨rfl, hb⟩; have n0_ := Aside0.mk (blk_below (g := gb1234) (o := .cells #[.int .u8 t1228, .int .i64 t1229, .string t1230] 39 (0, 0)) (by (with_reducible repeat (first | refine blk_drewN ?_ _ | refine blk_drew ?_ | refine blk_alloc ?_ _)); refine blk_far ?_ NB1234_1243.out _; (with_reducible repeat (first | refine blk_drewN ?_ _ | refine blk_drew ?_ | refine blk_alloc ?_ _)); refine blk_far ?_ NB1234_1243.out _; (with_reducible repeat (first | refine blk_drewN ?_ _ | refine blk_drew ?_ | refine blk_alloc ?_ _)); refine blk_far ?_ NB1234_1243.out _; (with_reducible repeat (first | refine blk_drewN ?_ _ | refine blk_drew ?_ | refine blk_alloc ?_ _)); refine blk_far ?_ NB1234_1242.out _; (with_reducible repeat (first | refine blk_drewN ?_ _ | refine blk_drew ?_ | refine blk_alloc ?_ _)); refine blk_far ?_ NB1234_1242.out _; (with_reducible repeat (first | refine blk_drewN ?_ _ | refine blk_drew ?_ | refine blk_alloc ?_ _)); refine blk_far ?_ NB1234_1242.out _; (with_reducible repeat (first | refine blk_drewN ?_ _ | refine blk_drew ?_ | refine blk_alloc ?_ _)); exact BK1234.out) hb); have n1_ := Aside0.mk (blk_below (g := gb1235) (o := .cells #[.int .u8 t1231, .int .i64 t1232, .string t1233] 39 (0, 0)) (by (with_reducible repeat (first | refine blk_drewN ?_ _ | refine blk_drew ?_ | refine blk_alloc ?_ _)); refine blk_far ?_ NB1235_1243.out _; (with_reducible repeat (first | refine blk_drewN ?_ _ | refine blk_drew ?_ | refine blk_alloc ?_ _)); refine blk_far ?_ NB1235_1243.out _; (with_reducible repeat (first | refine blk_drewN ?_ _ | refine blk_drew ?_ | refine blk_alloc ?_ _)); refine blk_far ?_ NB1235_1243.out _; (with_reducible repeat (first | refine blk_drewN ?_ _ | refine blk_drew ?_ | refine blk_alloc ?_ _)); refine blk_far ?_ NB1235_1242.out _; (with_reducible repeat (first | refine blk_drewN ?_ _ | refine blk_drew ?_ | refine blk_alloc ?_ _)); refine blk_far ?_ NB1235_1242.out _; (with_reducible repeat (first | refine blk_drewN ?_ _ | refine blk_drew ?_ | refine blk_alloc ?_ _)); refine blk_far ?_ NB1235_1242.out _; (with_reducible repeat (first | refine blk_drewN ?_ _ | refine blk_drew ?_ | refine blk_alloc ?_ _)); exact BK1235.out) hb); have n2_ := Aside0.mk (blk_below (g := gb1242) (o := .cells #[.int .u8 t1236, .int .i64 t1237, .string t1238] 39 (0, 0)) (by (with_reducible repeat (first | refine blk_drewN ?_ _ | refine blk_drew ?_ | refine blk_alloc ?_ _)); refine blk_far ?_ NB1242_1243.out _; (with_reducible repeat (first | refine blk_drewN ?_ _ | refine blk_drew ?_ | refine blk_alloc ?_ _)); refine blk_far ?_ NB1242_1243.out _; (with_reducible repeat (first | refine blk_drewN ?_ _ | refine blk_drew ?_ | refine blk_alloc ?_ _)); refine blk_far ?_ NB1242_1243.out _; (with_reducible repeat (first | refine blk_drewN ?_ _ | refine blk_drew ?_ | refine blk_alloc ?_ _)); refine blk_put (cs := #[.int .u8 t1236, .int .i64 t1237, .string (⟨#[]⟩ : ByteArray)]) ?_ 2 _ rfl; (with_reducible repeat (first | refine blk_drewN ?_ _ | refine blk_drew ?_ | refine blk_alloc ?_ _)); refine blk_put (cs := #[.int .u8 t1236, .int .i64 0, .string (⟨#[]⟩ : ByteArray)]) ?_ 1 _ rfl; (with_reducible repeat (first | refine blk_drewN ?_ _ | refine blk_drew ?_ | refine blk_alloc ?_ _)); refine blk_put (cs := #[.int .u8 0, .int .i64 0, .string (⟨#[]⟩ : ByteArray)]) ?_ 0 _ rfl; (with_reducible repeat (first | refine blk_drewN ?_ _ | refine blk_drew ?_ | refine blk_alloc ?_ _)); exact BK1242.out) hb); have n3_ := Aside0.mk (blk_below (g := gb1243) (o := .cells #[.int .u8 t1239, .int .i64 t1240, .string t1241] 39 (0, 0)) (by (with_reducible repeat (first | refine blk_drewN ?_ _ | refine blk_drew ?_ | refine blk_alloc ?_ _)); refine blk_put (cs := #[.int .u8 t1239, .int .i64 t1240, .string (⟨#[]⟩ : ByteArray)]) ?_ 2 _ rfl; (with_reducible repeat (first | refine blk_drewN ?_ _ | refine blk_drew ?_ | refine blk_alloc ?_ _)); refine blk_put (cs := #[.int .u8 t1239, .int .i64 0, .string (⟨#[]⟩ : ByteArray)]) ?_ 1 _ rfl; (with_reducible repeat (first | refine blk_drewN ?_ _ | refine blk_drew ?_ | refine blk_alloc ?_ _)); refine blk_put (cs := #[.int .u8 0, .int .i64 0, .string (⟨#[]⟩ : ByteArray)]) ?_ 0 _ rfl; (with_reducible repeat (first | refine blk_drewN ?_ _ | refine blk_drew ?_ | refine blk_alloc ?_ _)); refine blk_far ?_ NB1243_1242.out _; (with_reducible repeat (first | refine blk_drewN ?_ _ | refine blk_drew ?_ | refine blk_alloc ?_ _)); refine blk_far ?_ NB1243_1242.out _; (with_reducible repeat (first | refine blk_drewN ?_ _ | refine blk_drew ?_ | refine blk_alloc ?_ _)); refine blk_far ?_ NB1243_1242.out _; (with_reducible repeat (first | refine blk_drewN ?_ _ | refine blk_drew ?_ | refine blk_alloc ?_ _)); exact BK1243.out) hb); have n4_ := Aside0.mk (below_step (by repeat (first | (with_reducible first | exact HB.out | apply below_alloc | apply pw_below_drewN | apply below_drew1 | refine below_set ?_ GE1234.out | refine below_set ?_ GE1235.out | refine below_set ?_ GE1242.out | refine below_set ?_ GE1243.out) | exact HB.out)) hb); clear BK1234; clear BK1235; clear BK1242; clear BK1243; clear HB; have BK1234 := n0_; have BK1235 := n1_; have BK1242 := n2_; have BK1243 := n3_; have HB := n4_; clear n0_ n1_ n2_ n3_ n4_; (try clear hb); (try clear hb2); (try clear hk); (try clear hi)))
              go_ret
              exact ⟨by first | rfl | (simp [errW_none, errW_some] <;> rfl) | (simp [*, errW_none, errW_some] <;> rfl), by repeat (first | (with_reducible first | exact HB.out | apply below_alloc | apply pw_below_drewN | apply below_drew1 | refine below_set ?_ GE1234.out | refine below_set ?_ GE1235.out | refine below_set ?_ GE1242.out | refine below_set ?_ GE1243.out) | exact HB.out)⟩
            · rw [if_neg c15] at H
              have c15b0 : (t1231 == t1239 && (t1232 == t1240 && (t1233.toList == t1241.toList))) = false := by simpa using c15
              (try (have c15b1 : decide (t1231 = t1239 && (t1232 == t1240 && (t1233.toList == t1241.toList))) = false := by simpa using c15))
              (try (have c15b2 : (t1231 == t1239 && (t1232 == t1240 && (t1233.toList == t1241.toList))) = false := by simpa using c15))
              (try (have c15b3 : ¬ (t1231 = t1239 && (t1232 == t1240 && (t1233.toList == t1241.toList))) := by simpa using c15))
              clear c15
              obtain rfl := Option.some.inj H
              go_wp2_with (first | ((with_reducible refine gate_callee (f := 62) rfl ?_); refine goesL_ (some 25) rfl rfl Try.func62 (by kernel_rfl) rfl #[.slice A0 l0.length c0] rfl (by (try simp only [List.map_toArray, List.map_cons, List.map_nil]); first | done | rfl | (simp only [List.length_drop, List.length_take]; rfl)) ?_; (with_reducible refine (column_Bounds.calls k1 _ _ l0 t1228 t1229 t1230 t1231 t1232 t1233 _ ?side1 ?side2 A12.out).mono ?_); (case side1 => repeat (first | exact (Kd.C_below HR0.out HB.out) | (with_reducible refine Kd.C_alloc ?_ _) | (with_reducible refine Kd.C_drewN ?_ _) | (with_reducible refine Kd.C_drew ?_))); (case side2 => exact HC0.out); rintro e w36 ⟨rfl, hb⟩; refine ⟨_, rfl, ?_⟩; have n0_ := Aside0.mk (below_step (by repeat (first | (with_reducible first | exact HB.out | apply below_alloc | apply pw_below_drewN | apply below_drew1) | exact HB.out)) hb); clear HB; have HB := n0_; clear n0_; (try clear hb); (try clear hb2); (try clear hk); (try clear hi)) | ((with_reducible refine gate_dst (N := 4) rfl ?_); refine box_event ?hg (N := 4) ?hd (cs := #[.int .u8 0, .int .i64 0, .string (⟨#[]⟩ : ByteArray)]) (t := 39) ?hr ?_; (case hd => rfl); (case hg => rfl); (case hr => first | (go_simp; done) | (go_simp; rfl)); intro gb1234 hg w37 hbox hb; have n0_ := Aside0.mk (below_step (by repeat (first | (with_reducible first | exact HB.out | apply below_alloc | apply pw_below_drewN | apply below_drew1) | exact HB.out)) hb); have n1_ := Aside0.mk (hbox); have n2_ := Aside0.mk ((by rw [hg]; exact (below_size (by repeat (first | (with_reducible first | exact HB.out | apply below_alloc | apply pw_below_drewN | apply below_drew1) | exact HB.out))) : w.heap.size ≤ gb1234)); have n3_ := Aside0.mk ((by rw [hg]; exact (below_size (by repeat (first | (with_reducible first | exact HB.out | apply below_alloc | apply pw_below_drewN | apply below_drew1) | exact HB.out))) : w.heap.size ≤ gb1234)); clear HB; have HB := n0_; have BK1234 := n1_; have GW1234 := n2_; have GE1234 := n3_; clear n0_ n1_ n2_ n3_; clear hb hbox hg) | ((with_reducible refine gate_dst (N := 5) rfl ?_); refine box_event ?hg (N := 5) ?hd (cs := #[.int .u8 0, .int .i64 0, .string (⟨#[]⟩ : ByteArray)]) (t := 39) ?hr ?_; (case hd => rfl); (case hg => rfl); (case hr => first | (go_simp; done) | (go_simp; rfl)); intro gb1235 hg w38 hbox hb; have n0_ := Aside0.mk (blk_below (g := gb1234) (o := .cells #[.int .u8 0, .int .i64 0, .string (⟨#[]⟩ : ByteArray)] 39 (0, 0)) (by (with_reducible repeat (first | refine blk_drewN ?_ _ | refine blk_drew ?_ | refine blk_alloc ?_ _)); exact BK1234.out) hb); have n1_ := Aside0.mk (below_step (by repeat (first | (with_reducible first | exact HB.out | apply below_alloc | apply pw_below_drewN | apply below_drew1 | refine below_set ?_ GE1234.out) | exact HB.out)) hb); have n2_ := Aside0.mk (hbox); have n3_ := Aside0.mk ((by rw [hg]; exact (below_size (by repeat (first | (with_reducible first | exact HB.out | apply below_alloc | apply pw_below_drewN | apply below_drew1 | refine below_set ?_ GE1234.out) | exact HB.out))) : w.heap.size ≤ gb1235)); have n4_ := Aside0.mk ((by rw [hg]; exact (below_size (by repeat (first | (with_reducible first | exact HB.out | apply below_alloc | apply pw_below_drewN | apply below_drew1 | refine below_set ?_ GE1234.out) | exact HB.out))) : w.heap.size ≤ gb1235)); have n5_ := Aside0.mk ((by rw [hg]; exact Nat.ne_of_lt (blk_lt (g := gb1234) (o := .cells #[.int .u8 0, .int .i64 0, .string (⟨#[]⟩ : ByteArray)] 39 (0, 0)) (by (with_reducible repeat (first | refine blk_drewN ?_ _ | refine blk_drew ?_ | refine blk_alloc ?_ _)); exact BK1234.out)) : gb1234 ≠ gb1235)); have n6_ := Aside0.mk ((by rw [hg]; exact Nat.ne_of_gt (blk_lt (g := gb1234) (o := .cells #[.int .u8 0, .int .i64 0, .string (⟨#[]⟩ : ByteArray)] 39 (0, 0)) (by (with_reducible repeat (first | refine blk_drewN ?_ _ | refine blk_drew ?_ | refine blk_alloc ?_ _)); exact BK1234.out)) : gb1235 ≠ gb1234)); clear BK1234; clear HB; have BK1234 := n0_; have HB := n1_; have BK1235 := n2_; have GW1235 := n3_; have GE1235 := n4_; have NB1234_1235 := n5_; have NB1235_1234 := n6_; clear n0_ n1_ n2_ n3_ n4_ n5_ n6_; clear hb hbox hg; have hnb39 := NB1234_1235.out; have hnc39 := NB1235_1234.out; have hcz40_0 : w38.cell? ⟨gb1234, 0, none⟩ = some (.int .u8 0) := (blk_cell BK1234.out 0).trans rfl; have hcz40_1 : w38.cell? ⟨gb1234, 1, none⟩ = some (.int .i64 0) := (blk_cell BK1234.out 1).trans rfl; have hcz40_2 : w38.cell? ⟨gb1234, 2, none⟩ = some (.string (⟨#[]⟩ : ByteArray)) := (blk_cell BK1234.out 2).trans rfl; have hfz40_0 := blk_frozen BK1234.out 0; have hfz40_1 := blk_frozen BK1234.out 1; have hfz40_2 := blk_frozen BK1234.out 2; have hcz41_0 : w38.cell? ⟨gb1235, 0, none⟩ = some (.int .u8 0) := (blk_cell BK1235.out 0).trans rfl; have hcz41_1 : w38.cell? ⟨gb1235, 1, none⟩ = some (.int .i64 0) := (blk_cell BK1235.out 1).trans rfl; have hcz41_2 : w38.cell? ⟨gb1235, 2, none⟩ = some (.string (⟨#[]⟩ : ByteArray)) := (blk_cell BK1235.out 2).trans rfl; have hfz41_0 := blk_frozen BK1235.out 0; have hfz41_1 := blk_frozen BK1235.out 1; have hfz41_2 := blk_frozen BK1235.out 2) | ((with_reducible refine gate_callee (f := 63) rfl ?_); refine goesL_ (some 30) rfl rfl Try.func63 (by kernel_rfl) rfl #[.slice A0 l0.length c0] rfl (by (try simp only [List.map_toArray, List.map_cons, List.map_nil]); first | done | rfl | (simp only [List.length_drop, List.length_take]; rfl)) ?_; (with_reducible refine (tidelineref06_Bounds.calls k1 _ _ l0 t1236 t1237 t1238 t1239 t1240 t1241 _ ?side1 ?side2 A13.out).mono ?_); (case side1 => exact Kd.C_below HR0.out (by repeat (first | (with_reducible first | exact HB.out | apply below_alloc | apply pw_below_drewN | apply below_drew1 | refine below_set ?_ GE1234.out | refine below_set ?_ GE1235.out) | exact HB.out))); (case side2 => exact HC0.out); rintro e w42 ⟨rfl, hb⟩; refine ⟨_, rfl, ?_⟩; have n0_ := Aside0.mk (blk_below (g := gb1234) (o := .cells #[.int .u8 t1228, .int .i64 t1229, .string t1230] 39 (0, 0)) (by (with_reducible repeat (first | refine blk_drewN ?_ _ | refine blk_drew ?_ | refine blk_alloc ?_ _)); refine blk_far ?_ NB1234_1235.out _; (with_reducible repeat (first | refine blk_drewN ?_ _ | refine blk_drew ?_ | refine blk_alloc ?_ _)); refine blk_far ?_ NB1234_1235.out _; (with_reducible repeat (first | refine blk_drewN ?_ _ | refine blk_drew ?_ | refine blk_alloc ?_ _)); refine blk_far ?_ NB1234_1235.out _; (with_reducible repeat (first | refine blk_drewN ?_ _ | refine blk_drew ?_ | refine blk_alloc ?_ _)); refine blk_put (cs := #[.int .u8 t1228, .int .i64 t1229, .string (⟨#[]⟩ : ByteArray)]) ?_ 2 _ rfl; (with_reducible repeat (first | refine blk_drewN ?_ _ | refine blk_drew ?_ | refine blk_alloc ?_ _)); refine blk_put (cs := #[.int .u8 t1228, .int .i64 0, .string (⟨#[]⟩ : ByteArray)]) ?_ 1 _ rfl; (with_reducible repeat (first | refine blk_drewN ?_ _ | refine blk_drew ?_ | refine blk_alloc ?_ _)); refine blk_put (cs := #[.int .u8 0, .int .i64 0, .string (⟨#[]⟩ : ByteArray)]) ?_ 0 _ rfl; (with_reducible repeat (first | refine blk_drewN ?_ _ | refine blk_drew ?_ | refine blk_alloc ?_ _)); exact BK1234.out) hb); have n1_ := Aside0.mk (blk_below (g := gb1235) (o := .cells #[.int .u8 t1231, .int .i64 t1232, .string t1233] 39 (0, 0)) (by (with_reducible repeat (first | refine blk_drewN ?_ _ | refine blk_drew ?_ | refine blk_alloc ?_ _)); refine blk_put (cs := #[.int .u8 t1231, .int .i64 t1232, .string (⟨#[]⟩ : ByteArray)]) ?_ 2 _ rfl; (with_reducible repeat (first | refine blk_drewN ?_ _ | refine blk_drew ?_ | refine blk_alloc ?_ _)); refine blk_put (cs := #[.int .u8 t1231, .int .i64 0, .string (⟨#[]⟩ : ByteArray)]) ?_ 1 _ rfl; (with_reducible repeat (first | refine blk_drewN ?_ _ | refine blk_drew ?_ | refine blk_alloc ?_ _)); refine blk_put (cs := #[.int .u8 0, .int .i64 0, .string (⟨#[]⟩ : ByteArray)]) ?_ 0 _ rfl; (with_reducible repeat (first | refine blk_drewN ?_ _ | refine blk_drew ?_ | refine blk_alloc ?_ _)); refine blk_far ?_ NB1235_1234.out _; (with_reducible repeat (first | refine blk_drewN ?_ _ | refine blk_drew ?_ | refine blk_alloc ?_ _)); refine blk_far ?_ NB1235_1234.out _; (with_reducible repeat (first | refine blk_drewN ?_ _ | refine blk_drew ?_ | refine blk_alloc ?_ _)); refine blk_far ?_ NB1235_1234.out _; (with_reducible repeat (first | refine blk_drewN ?_ _ | refine blk_drew ?_ | refine blk_alloc ?_ _)); exact BK1235.out) hb); have n2_ := Aside0.mk (below_step (by repeat (first | (with_reducible first | exact HB.out | apply below_alloc | apply pw_below_drewN | apply below_drew1 | refine below_set ?_ GE1234.out | refine below_set ?_ GE1235.out) | exact HB.out)) hb); clear BK1234; clear BK1235; clear HB; have BK1234 := n0_; have BK1235 := n1_; have HB := n2_; clear n0_ n1_ n2_; (try clear hb); (try clear hb2); (try clear hk); (try clear hi)) | ((with_reducible refine gate_dst (N := 6) rfl ?_); refine box_event ?hg (N := 6) ?hd (cs := #[.int .u8 0, .int .i64 0, .string (⟨#[]⟩ : ByteArray)]) (t := 39) ?hr ?_; (case hd => rfl); (case hg => rfl); (case hr => first | (go_simp; done) | (go_simp; rfl)); intro gb1242 hg w43 hbox hb; have n0_ := Aside0.mk (blk_below (g := gb1234) (o := .cells #[.int .u8 t1228, .int .i64 t1229, .string t1230] 39 (0, 0)) (by (with_reducible repeat (first | refine blk_drewN ?_ _ | refine blk_drew ?_ | refine blk_alloc ?_ _)); exact BK1234.out) hb); have n1_ := Aside0.mk (blk_below (g := gb1235) (o := .cells #[.int .u8 t1231, .int .i64 t1232, .string t1233] 39 (0, 0)) (by (with_reducible repeat (first | refine blk_drewN ?_ _ | refine blk_drew ?_ | refine blk_alloc ?_ _)); exact BK1235.out) hb); have n2_ := Aside0.mk (below_step (by repeat (first | (with_reducible first | exact HB.out | apply below_alloc | apply pw_below_drewN | apply below_drew1 | refine below_set ?_ GE1234.out | refine below_set ?_ GE1235.out) | exact HB.out)) hb); have n3_ := Aside0.mk (hbox); have n4_ := Aside0.mk ((by rw [hg]; exact (below_size (by repeat (first | (with_reducible first | exact HB.out | apply below_alloc | apply pw_below_drewN | apply below_drew1 | refine below_set ?_ GE1234.out | refine below_set ?_ GE1235.out) | exact HB.out))) : w.heap.size ≤ gb1242)); have n5_ := Aside0.mk ((by rw [hg]; exact (below_size (by repeat (first | (with_reducible first | exact HB.out | apply below_alloc | apply pw_below_drewN | apply below_drew1 | refine below_set ?_ GE1234.out | refine below_set ?_ GE1235.out) | exact HB.out))) : w.heap.size ≤ gb1242)); have n6_ := Aside0.mk ((by rw [hg]; exact Nat.ne_of_lt (blk_lt (g := gb1234) (o := .cells #[.int .u8 t1228, .int .i64 t1229, .string t1230] 39 (0, 0)) (by (with_reducible repeat (first | refine blk_drewN ?_ _ | refine blk_drew ?_ | refine blk_alloc ?_ _)); exact BK1234.out)) : gb1234 ≠ gb1242)); have n7_ := Aside0.mk ((by rw [hg]; exact Nat.ne_of_gt (blk_lt (g := gb1234) (o := .cells #[.int .u8 t1228, .int .i64 t1229, .string t1230] 39 (0, 0)) (by (with_reducible repeat (first | refine blk_drewN ?_ _ | refine blk_drew ?_ | refine blk_alloc ?_ _)); exact BK1234.out)) : gb1242 ≠ gb1234)); have n8_ := Aside0.mk ((by rw [hg]; exact Nat.ne_of_lt (blk_lt (g := gb1235) (o := .cells #[.int .u8 t1231, .int .i64 t1232, .string t1233] 39 (0, 0)) (by (with_reducible repeat (first | refine blk_drewN ?_ _ | refine blk_drew ?_ | refine blk_alloc ?_ _)); exact BK1235.out)) : gb1235 ≠ gb1242)); have n9_ := Aside0.mk ((by rw [hg]; exact Nat.ne_of_gt (blk_lt (g := gb1235) (o := .cells #[.int .u8 t1231, .int .i64 t1232, .string t1233] 39 (0, 0)) (by (with_reducible repeat (first | refine blk_drewN ?_ _ | refine blk_drew ?_ | refine blk_alloc ?_ _)); exact BK1235.out)) : gb1242 ≠ gb1235)); clear BK1234; clear BK1235; clear HB; have BK1234 := n0_; have BK1235 := n1_; have HB := n2_; have BK1242 := n3_; have GW1242 := n4_; have GE1242 := n5_; have NB1234_1242 := n6_; have NB1242_1234 := n7_; have NB1235_1242 := n8_; have NB1242_1235 := n9_; clear n0_ n1_ n2_ n3_ n4_ n5_ n6_ n7_ n8_ n9_; clear hb hbox hg) | ((with_reducible refine gate_dst (N := 7) rfl ?_); refine box_event ?hg (N := 7) ?hd (cs := #[.int .u8 0, .int .i64 0, .string (⟨#[]⟩ : ByteArray)]) (t := 39) ?hr ?_; (case hd => rfl); (case hg => rfl); (case hr => first | (go_simp; done) | (go_simp; rfl)); intro gb1243 hg w44 hbox hb; have n0_ := Aside0.mk (blk_below (g := gb1234) (o := .cells #[.int .u8 t1228, .int .i64 t1229, .string t1230] 39 (0, 0)) (by (with_reducible repeat (first | refine blk_drewN ?_ _ | refine blk_drew ?_ | refine blk_alloc ?_ _)); exact BK1234.out) hb); have n1_ := Aside0.mk (blk_below (g := gb1235) (o := .cells #[.int .u8 t1231, .int .i64 t1232, .string t1233] 39 (0, 0)) (by (with_reducible repeat (first | refine blk_drewN ?_ _ | refine blk_drew ?_ | refine blk_alloc ?_ _)); exact BK1235.out) hb); have n2_ := Aside0.mk (blk_below (g := gb1242) (o := .cells #[.int .u8 0, .int .i64 0, .string (⟨#[]⟩ : ByteArray)] 39 (0, 0)) (by (with_reducible repeat (first | refine blk_drewN ?_ _ | refine blk_drew ?_ | refine blk_alloc ?_ _)); exact BK1242.out) hb); have n3_ := Aside0.mk (below_step (by repeat (first | (with_reducible first | exact HB.out | apply below_alloc | apply pw_below_drewN | apply below_drew1 | refine below_set ?_ GE1234.out | refine below_set ?_ GE1235.out | refine below_set ?_ GE1242.out) | exact HB.out)) hb); have n4_ := Aside0.mk (hbox); have n5_ := Aside0.mk ((by rw [hg]; exact (below_size (by repeat (first | (with_reducible first | exact HB.out | apply below_alloc | apply pw_below_drewN | apply below_drew1 | refine below_set ?_ GE1234.out | refine below_set ?_ GE1235.out | refine below_set ?_ GE1242.out) | exact HB.out))) : w.heap.size ≤ gb1243)); have n6_ := Aside0.mk ((by rw [hg]; exact (below_size (by repeat (first | (with_reducible first | exact HB.out | apply below_alloc | apply pw_below_drewN | apply below_drew1 | refine below_set ?_ GE1234.out | refine below_set ?_ GE1235.out | refine below_set ?_ GE1242.out) | exact HB.out))) : w.heap.size ≤ gb1243)); have n7_ := Aside0.mk ((by rw [hg]; exact Nat.ne_of_lt (blk_lt (g := gb1234) (o := .cells #[.int .u8 t1228, .int .i64 t1229, .string t1230] 39 (0, 0)) (by (with_reducible repeat (first | refine blk_drewN ?_ _ | refine blk_drew ?_ | refine blk_alloc ?_ _)); exact BK1234.out)) : gb1234 ≠ gb1243)); have n8_ := Aside0.mk ((by rw [hg]; exact Nat.ne_of_gt (blk_lt (g := gb1234) (o := .cells #[.int .u8 t1228, .int .i64 t1229, .string t1230] 39 (0, 0)) (by (with_reducible repeat (first | refine blk_drewN ?_ _ | refine blk_drew ?_ | refine blk_alloc ?_ _)); exact BK1234.out)) : gb1243 ≠ gb1234)); have n9_ := Aside0.mk ((by rw [hg]; exact Nat.ne_of_lt (blk_lt (g := gb1235) (o := .cells #[.int .u8 t1231, .int .i64 t1232, .string t1233] 39 (0, 0)) (by (with_reducible repeat (first | refine blk_drewN ?_ _ | refine blk_drew ?_ | refine blk_alloc ?_ _)); exact BK1235.out)) : gb1235 ≠ gb1243)); have n10_ := Aside0.mk ((by rw [hg]; exact Nat.ne_of_gt (blk_lt (g := gb1235) (o := .cells #[.int .u8 t1231, .int .i64 t1232, .string t1233] 39 (0, 0)) (by (with_reducible repeat (first | refine blk_drewN ?_ _ | refine blk_drew ?_ | refine blk_alloc ?_ _)); exact BK1235.out)) : gb1243 ≠ gb1235)); have n11_ := Aside0.mk ((by rw [hg]; exact Nat.ne_of_lt (blk_lt (g := gb1242) (o := .cells #[.int .u8 0, .int .i64 0, .string (⟨#[]⟩ : ByteArray)] 39 (0, 0)) (by (with_reducible repeat (first | refine blk_drewN ?_ _ | refine blk_drew ?_ | refine blk_alloc ?_ _)); exact BK1242.out)) : gb1242 ≠ gb1243)); have n12_ := Aside0.mk ((by rw [hg]; exact Nat.ne_of_gt (blk_lt (g := gb1242) (o := .cells #[.int .u8 0, .int .i64 0, .string (⟨#[]⟩ : ByteArray)] 39 (0, 0)) (by (with_reducible repeat (first | refine blk_drewN ?_ _ | refine blk_drew ?_ | refine blk_alloc ?_ _)); exact BK1242.out)) : gb1243 ≠ gb1242)); clear BK1234; clear BK1235; clear BK1242; clear HB; have BK1234 := n0_; have BK1235 := n1_; have BK1242 := n2_; have HB := n3_; have BK1243 := n4_; have GW1243 := n5_; have GE1243 := n6_; have NB1234_1243 := n7_; have NB1243_1234 := n8_; have NB1235_1243 := n9_; have NB1243_1235 := n10_; have NB1242_1243 := n11_; have NB1243_1242 := n12_; clear n0_ n1_ n2_ n3_ n4_ n5_ n6_ n7_ n8_ n9_ n10_ n11_ n12_; clear hb hbox hg; have hnb45 := NB1242_1234.out; have hnc45 := NB1234_1242.out; have hnb46 := NB1242_1235.out; have hnc46 := NB1235_1242.out; have hnb47 := NB1242_1243.out; have hnc47 := NB1243_1242.out; have hcz48_0 : w44.cell? ⟨gb1242, 0, none⟩ = some (.int .u8 0) := (blk_cell BK1242.out 0).trans rfl; have hcz48_1 : w44.cell? ⟨gb1242, 1, none⟩ = some (.int .i64 0) := (blk_cell BK1242.out 1).trans rfl; have hcz48_2 : w44.cell? ⟨gb1242, 2, none⟩ = some (.string (⟨#[]⟩ : ByteArray)) := (blk_cell BK1242.out 2).trans rfl; have hfz48_0 := blk_frozen BK1242.out 0; have hfz48_1 := blk_frozen BK1242.out 1; have hfz48_2 := blk_frozen BK1242.out 2; have hnb49 := NB1243_1234.out; have hnc49 := NB1234_1243.out; have hnb50 := NB1243_1235.out; have hnc50 := NB1235_1243.out; have hcz51_0 : w44.cell? ⟨gb1243, 0, none⟩ = some (.int .u8 0) := (blk_cell BK1243.out 0).trans rfl; have hcz51_1 : w44.cell? ⟨gb1243, 1, none⟩ = some (.int .i64 0) := (blk_cell BK1243.out 1).trans rfl; have hcz51_2 : w44.cell? ⟨gb1243, 2, none⟩ = some (.string (⟨#[]⟩ : ByteArray)) := (blk_cell BK1243.out 2).trans rfl; have hfz51_0 := blk_frozen BK1243.out 0; have hfz51_1 := blk_frozen BK1243.out 1; have hfz51_2 := blk_frozen BK1243.out 2; have hcz52_0 : w44.cell? ⟨gb1234, 0, none⟩ = some (.int .u8 t1228) := (blk_cell BK1234.out 0).trans rfl; have hcz52_1 : w44.cell? ⟨gb1234, 1, none⟩ = some (.int .i64 t1229) := (blk_cell BK1234.out 1).trans rfl; have hcz52_2 : w44.cell? ⟨gb1234, 2, none⟩ = some (.string t1230) := (blk_cell BK1234.out 2).trans rfl; have hfz52_0 := blk_frozen BK1234.out 0; have hfz52_1 := blk_frozen BK1234.out 1; have hfz52_2 := blk_frozen BK1234.out 2; have hcz53_0 : w44.cell? ⟨gb1235, 0, none⟩ = some (.int .u8 t1231) := (blk_cell BK1235.out 0).trans rfl; have hcz53_1 : w44.cell? ⟨gb1235, 1, none⟩ = some (.int .i64 t1232) := (blk_cell BK1235.out 1).trans rfl; have hcz53_2 : w44.cell? ⟨gb1235, 2, none⟩ = some (.string t1233) := (blk_cell BK1235.out 2).trans rfl; have hfz53_0 := blk_frozen BK1235.out 0; have hfz53_1 := blk_frozen BK1235.out 1; have hfz53_2 := blk_frozen BK1235.out 2))
              go_ret
              exact ⟨by first | rfl | (simp [errW_none, errW_some] <;> rfl) | (simp [*, errW_none, errW_some] <;> rfl), by repeat (first | (with_reducible first | exact HB.out | apply below_alloc | apply pw_below_drewN | apply below_drew1 | refine below_set ?_ GE1234.out | refine below_set ?_ GE1235.out | refine below_set ?_ GE1242.out | refine below_set ?_ GE1243.out) | exact HB.out)⟩
          · rw [if_neg c14] at H
            have c14b0 : (t1228 == t1236 && (t1229 == t1237 && (t1230.toList == t1238.toList))) = false := by simpa using c14
            (try (have c14b1 : decide (t1228 = t1236 && (t1229 == t1237 && (t1230.toList == t1238.toList))) = false := by simpa using c14))
            (try (have c14b2 : (t1228 == t1236 && (t1229 == t1237 && (t1230.toList == t1238.toList))) = false := by simpa using c14))
            (try (have c14b3 : ¬ (t1228 = t1236 && (t1229 == t1237 && (t1230.toList == t1238.toList))) := by simpa using c14))
            clear c14
            obtain rfl := Option.some.inj H
            go_wp2_with (first | ((with_reducible refine gate_callee (f := 62) rfl ?_); refine goesL_ (some 25) rfl rfl Try.func62 (by kernel_rfl) rfl #[.slice A0 l0.length c0] rfl (by (try simp only [List.map_toArray, List.map_cons, List.map_nil]); first | done | rfl | (simp only [List.length_drop, List.length_take]; rfl)) ?_; (with_reducible refine (column_Bounds.calls k1 _ _ l0 t1228 t1229 t1230 t1231 t1232 t1233 _ ?side1 ?side2 A12.out).mono ?_); (case side1 => repeat (first | exact (Kd.C_below HR0.out HB.out) | (with_reducible refine Kd.C_alloc ?_ _) | (with_reducible refine Kd.C_drewN ?_ _) | (with_reducible refine Kd.C_drew ?_))); (case side2 => exact HC0.out); rintro e w54 ⟨rfl, hb⟩; refine ⟨_, rfl, ?_⟩; have n0_ := Aside0.mk (below_step (by repeat (first | (with_reducible first | exact HB.out | apply below_alloc | apply pw_below_drewN | apply below_drew1) | exact HB.out)) hb); clear HB; have HB := n0_; clear n0_; (try clear hb); (try clear hb2); (try clear hk); (try clear hi)) | ((with_reducible refine gate_dst (N := 4) rfl ?_); refine box_event ?hg (N := 4) ?hd (cs := #[.int .u8 0, .int .i64 0, .string (⟨#[]⟩ : ByteArray)]) (t := 39) ?hr ?_; (case hd => rfl); (case hg => rfl); (case hr => first | (go_simp; done) | (go_simp; rfl)); intro gb1234 hg w55 hbox hb; have n0_ := Aside0.mk (below_step (by repeat (first | (with_reducible first | exact HB.out | apply below_alloc | apply pw_below_drewN | apply below_drew1) | exact HB.out)) hb); have n1_ := Aside0.mk (hbox); have n2_ := Aside0.mk ((by rw [hg]; exact (below_size (by repeat (first | (with_reducible first | exact HB.out | apply below_alloc | apply pw_below_drewN | apply below_drew1) | exact HB.out))) : w.heap.size ≤ gb1234)); have n3_ := Aside0.mk ((by rw [hg]; exact (below_size (by repeat (first | (with_reducible first | exact HB.out | apply below_alloc | apply pw_below_drewN | apply below_drew1) | exact HB.out))) : w.heap.size ≤ gb1234)); clear HB; have HB := n0_; have BK1234 := n1_; have GW1234 := n2_; have GE1234 := n3_; clear n0_ n1_ n2_ n3_; clear hb hbox hg) | ((with_reducible refine gate_dst (N := 5) rfl ?_); refine box_event ?hg (N := 5) ?hd (cs := #[.int .u8 0, .int .i64 0, .string (⟨#[]⟩ : ByteArray)]) (t := 39) ?hr ?_; (case hd => rfl); (case hg => rfl); (case hr => first | (go_simp; done) | (go_simp; rfl)); intro gb1235 hg w56 hbox hb; have n0_ := Aside0.mk (blk_below (g := gb1234) (o := .cells #[.int .u8 0, .int .i64 0, .string (⟨#[]⟩ : ByteArray)] 39 (0, 0)) (by (with_reducible repeat (first | refine blk_drewN ?_ _ | refine blk_drew ?_ | refine blk_alloc ?_ _)); exact BK1234.out) hb); have n1_ := Aside0.mk (below_step (by repeat (first | (with_reducible first | exact HB.out | apply below_alloc | apply pw_below_drewN | apply below_drew1 | refine below_set ?_ GE1234.out) | exact HB.out)) hb); have n2_ := Aside0.mk (hbox); have n3_ := Aside0.mk ((by rw [hg]; exact (below_size (by repeat (first | (with_reducible first | exact HB.out | apply below_alloc | apply pw_below_drewN | apply below_drew1 | refine below_set ?_ GE1234.out) | exact HB.out))) : w.heap.size ≤ gb1235)); have n4_ := Aside0.mk ((by rw [hg]; exact (below_size (by repeat (first | (with_reducible first | exact HB.out | apply below_alloc | apply pw_below_drewN | apply below_drew1 | refine below_set ?_ GE1234.out) | exact HB.out))) : w.heap.size ≤ gb1235)); have n5_ := Aside0.mk ((by rw [hg]; exact Nat.ne_of_lt (blk_lt (g := gb1234) (o := .cells #[.int .u8 0, .int .i64 0, .string (⟨#[]⟩ : ByteArray)] 39 (0, 0)) (by (with_reducible repeat (first | refine blk_drewN ?_ _ | refine blk_drew ?_ | refine blk_alloc ?_ _)); exact BK1234.out)) : gb1234 ≠ gb1235)); have n6_ := Aside0.mk ((by rw [hg]; exact Nat.ne_of_gt (blk_lt (g := gb1234) (o := .cells #[.int .u8 0, .int .i64 0, .string (⟨#[]⟩ : ByteArray)] 39 (0, 0)) (by (with_reducible repeat (first | refine blk_drewN ?_ _ | refine blk_drew ?_ | refine blk_alloc ?_ _)); exact BK1234.out)) : gb1235 ≠ gb1234)); clear BK1234; clear HB; have BK1234 := n0_; have HB := n1_; have BK1235 := n2_; have GW1235 := n3_; have GE1235 := n4_; have NB1234_1235 := n5_; have NB1235_1234 := n6_; clear n0_ n1_ n2_ n3_ n4_ n5_ n6_; clear hb hbox hg; have hnb57 := NB1234_1235.out; have hnc57 := NB1235_1234.out; have hcz58_0 : w56.cell? ⟨gb1234, 0, none⟩ = some (.int .u8 0) := (blk_cell BK1234.out 0).trans rfl; have hcz58_1 : w56.cell? ⟨gb1234, 1, none⟩ = some (.int .i64 0) := (blk_cell BK1234.out 1).trans rfl; have hcz58_2 : w56.cell? ⟨gb1234, 2, none⟩ = some (.string (⟨#[]⟩ : ByteArray)) := (blk_cell BK1234.out 2).trans rfl; have hfz58_0 := blk_frozen BK1234.out 0; have hfz58_1 := blk_frozen BK1234.out 1; have hfz58_2 := blk_frozen BK1234.out 2; have hcz59_0 : w56.cell? ⟨gb1235, 0, none⟩ = some (.int .u8 0) := (blk_cell BK1235.out 0).trans rfl; have hcz59_1 : w56.cell? ⟨gb1235, 1, none⟩ = some (.int .i64 0) := (blk_cell BK1235.out 1).trans rfl; have hcz59_2 : w56.cell? ⟨gb1235, 2, none⟩ = some (.string (⟨#[]⟩ : ByteArray)) := (blk_cell BK1235.out 2).trans rfl; have hfz59_0 := blk_frozen BK1235.out 0; have hfz59_1 := blk_frozen BK1235.out 1; have hfz59_2 := blk_frozen BK1235.out 2) | ((with_reducible refine gate_callee (f := 63) rfl ?_); refine goesL_ (some 30) rfl rfl Try.func63 (by kernel_rfl) rfl #[.slice A0 l0.length c0] rfl (by (try simp only [List.map_toArray, List.map_cons, List.map_nil]); first | done | rfl | (simp only [List.length_drop, List.length_take]; rfl)) ?_; (with_reducible refine (tidelineref06_Bounds.calls k1 _ _ l0 t1236 t1237 t1238 t1239 t1240 t1241 _ ?side1 ?side2 A13.out).mono ?_); (case side1 => exact Kd.C_below HR0.out (by repeat (first | (with_reducible first | exact HB.out | apply below_alloc | apply pw_below_drewN | apply below_drew1 | refine below_set ?_ GE1234.out | refine below_set ?_ GE1235.out) | exact HB.out))); (case side2 => exact HC0.out); rintro e w60 ⟨rfl, hb⟩; refine ⟨_, rfl, ?_⟩; have n0_ := Aside0.mk (blk_below (g := gb1234) (o := .cells #[.int .u8 t1228, .int .i64 t1229, .string t1230] 39 (0, 0)) (by (with_reducible repeat (first | refine blk_drewN ?_ _ | refine blk_drew ?_ | refine blk_alloc ?_ _)); refine blk_far ?_ NB1234_1235.out _; (with_reducible repeat (first | refine blk_drewN ?_ _ | refine blk_drew ?_ | refine blk_alloc ?_ _)); refine blk_far ?_ NB1234_1235.out _; (with_reducible repeat (first | refine blk_drewN ?_ _ | refine blk_drew ?_ | refine blk_alloc ?_ _)); refine blk_far ?_ NB1234_1235.out _; (with_reducible repeat (first | refine blk_drewN ?_ _ | refine blk_drew ?_ | refine blk_alloc ?_ _)); refine blk_put (cs := #[.int .u8 t1228, .int .i64 t1229, .string (⟨#[]⟩ : ByteArray)]) ?_ 2 _ rfl; (with_reducible repeat (first | refine blk_drewN ?_ _ | refine blk_drew ?_ | refine blk_alloc ?_ _)); refine blk_put (cs := #[.int .u8 t1228, .int .i64 0, .string (⟨#[]⟩ : ByteArray)]) ?_ 1 _ rfl; (with_reducible repeat (first | refine blk_drewN ?_ _ | refine blk_drew ?_ | refine blk_alloc ?_ _)); refine blk_put (cs := #[.int .u8 0, .int .i64 0, .string (⟨#[]⟩ : ByteArray)]) ?_ 0 _ rfl; (with_reducible repeat (first | refine blk_drewN ?_ _ | refine blk_drew ?_ | refine blk_alloc ?_ _)); exact BK1234.out) hb); have n1_ := Aside0.mk (blk_below (g := gb1235) (o := .cells #[.int .u8 t1231, .int .i64 t1232, .string t1233] 39 (0, 0)) (by (with_reducible repeat (first | refine blk_drewN ?_ _ | refine blk_drew ?_ | refine blk_alloc ?_ _)); refine blk_put (cs := #[.int .u8 t1231, .int .i64 t1232, .string (⟨#[]⟩ : ByteArray)]) ?_ 2 _ rfl; (with_reducible repeat (first | refine blk_drewN ?_ _ | refine blk_drew ?_ | refine blk_alloc ?_ _)); refine blk_put (cs := #[.int .u8 t1231, .int .i64 0, .string (⟨#[]⟩ : ByteArray)]) ?_ 1 _ rfl; (with_reducible repeat (first | refine blk_drewN ?_ _ | refine blk_drew ?_ | refine blk_alloc ?_ _)); refine blk_put (cs := #[.int .u8 0, .int .i64 0, .string (⟨#[]⟩ : ByteArray)]) ?_ 0 _ rfl; (with_reducible repeat (first | refine blk_drewN ?_ _ | refine blk_drew ?_ | refine blk_alloc ?_ _)); refine blk_far ?_ NB1235_1234.out _; (with_reducible repeat (first | refine blk_drewN ?_ _ | refine blk_drew ?_ | refine blk_alloc ?_ _)); refine blk_far ?_ NB1235_1234.out _; (with_reducible repeat (first | refine blk_drewN ?_ _ | refine blk_drew ?_ | refine blk_alloc ?_ _)); refine blk_far ?_ NB1235_1234.out _; (with_reducible repeat (first | refine blk_drewN ?_ _ | refine blk_drew ?_ | refine blk_alloc ?_ _)); exact BK1235.out) hb); have n2_ := Aside0.mk (below_step (by repeat (first | (with_reducible first | exact HB.out | apply below_alloc | apply pw_below_drewN | apply below_drew1 | refine below_set ?_ GE1234.out | refine below_set ?_ GE1235.out) | exact HB.out)) hb); clear BK1234; clear BK1235; clear HB; have BK1234 := n0_; have BK1235 := n1_; have HB := n2_; clear n0_ n1_ n2_; (try clear hb); (try clear hb2); (try clear hk); (try clear hi)) | ((with_reducible refine gate_dst (N := 6) rfl ?_); refine box_event ?hg (N := 6) ?hd (cs := #[.int .u8 0, .int .i64 0, .string (⟨#[]⟩ : ByteArray)]) (t := 39) ?hr ?_; (case hd => rfl); (case hg => rfl); (case hr => first | (go_simp; done) | (go_simp; rfl)); intro gb1242 hg w61 hbox hb; have n0_ := Aside0.mk (blk_below (g := gb1234) (o := .cells #[.int .u8 t1228, .int .i64 t1229, .string t1230] 39 (0, 0)) (by (with_reducible repeat (first | refine blk_drewN ?_ _ | refine blk_drew ?_ | refine blk_alloc ?_ _)); exact BK1234.out) hb); have n1_ := Aside0.mk (blk_below (g := gb1235) (o := .cells #[.int .u8 t1231, .int .i64 t1232, .string t1233] 39 (0, 0)) (by (with_reducible repeat (first | refine blk_drewN ?_ _ | refine blk_drew ?_ | refine blk_alloc ?_ _)); exact BK1235.out) hb); have n2_ := Aside0.mk (below_step (by repeat (first | (with_reducible first | exact HB.out | apply below_alloc | apply pw_below_drewN | apply below_drew1 | refine below_set ?_ GE1234.out | refine below_set ?_ GE1235.out) | exact HB.out)) hb); have n3_ := Aside0.mk (hbox); have n4_ := Aside0.mk ((by rw [hg]; exact (below_size (by repeat (first | (with_reducible first | exact HB.out | apply below_alloc | apply pw_below_drewN | apply below_drew1 | refine below_set ?_ GE1234.out | refine below_set ?_ GE1235.out) | exact HB.out))) : w.heap.size ≤ gb1242)); have n5_ := Aside0.mk ((by rw [hg]; exact (below_size (by repeat (first | (with_reducible first | exact HB.out | apply below_alloc | apply pw_below_drewN | apply below_drew1 | refine below_set ?_ GE1234.out | refine below_set ?_ GE1235.out) | exact HB.out))) : w.heap.size ≤ gb1242)); have n6_ := Aside0.mk ((by rw [hg]; exact Nat.ne_of_lt (blk_lt (g := gb1234) (o := .cells #[.int .u8 t1228, .int .i64 t1229, .string t1230] 39 (0, 0)) (by (with_reducible repeat (first | refine blk_drewN ?_ _ | refine blk_drew ?_ | refine blk_alloc ?_ _)); exact BK1234.out)) : gb1234 ≠ gb1242)); have n7_ := Aside0.mk ((by rw [hg]; exact Nat.ne_of_gt (blk_lt (g := gb1234) (o := .cells #[.int .u8 t1228, .int .i64 t1229, .string t1230] 39 (0, 0)) (by (with_reducible repeat (first | refine blk_drewN ?_ _ | refine blk_drew ?_ | refine blk_alloc ?_ _)); exact BK1234.out)) : gb1242 ≠ gb1234)); have n8_ := Aside0.mk ((by rw [hg]; exact Nat.ne_of_lt (blk_lt (g := gb1235) (o := .cells #[.int .u8 t1231, .int .i64 t1232, .string t1233] 39 (0, 0)) (by (with_reducible repeat (first | refine blk_drewN ?_ _ | refine blk_drew ?_ | refine blk_alloc ?_ _)); exact BK1235.out)) : gb1235 ≠ gb1242)); have n9_ := Aside0.mk ((by rw [hg]; exact Nat.ne_of_gt (blk_lt (g := gb1235) (o := .cells #[.int .u8 t1231, .int .i64 t1232, .string t1233] 39 (0, 0)) (by (with_reducible repeat (first | refine blk_drewN ?_ _ | refine blk_drew ?_ | refine blk_alloc ?_ _)); exact BK1235.out)) : gb1242 ≠ gb1235)); clear BK1234; clear BK1235; clear HB; have BK1234 := n0_; have BK1235 := n1_; have HB := n2_; have BK1242 := n3_; have GW1242 := n4_; have GE1242 := n5_; have NB1234_1242 := n6_; have NB1242_1234 := n7_; have NB1235_1242 := n8_; have NB1242_1235 := n9_; clear n0_ n1_ n2_ n3_ n4_ n5_ n6_ n7_ n8_ n9_; clear hb hbox hg) | ((with_reducible refine gate_dst (N := 7) rfl ?_); refine box_event ?hg (N := 7) ?hd (cs := #[.int .u8 0, .int .i64 0, .string (⟨#[]⟩ : ByteArray)]) (t := 39) ?hr ?_; (case hd => rfl); (case hg => rfl); (case hr => first | (go_simp; done) | (go_simp; rfl)); intro gb1243 hg w62 hbox hb; have n0_ := Aside0.mk (blk_below (g := gb1234) (o := .cells #[.int .u8 t1228, .int .i64 t1229, .string t1230] 39 (0, 0)) (by (with_reducible repeat (first | refine blk_drewN ?_ _ | refine blk_drew ?_ | refine blk_alloc ?_ _)); exact BK1234.out) hb); have n1_ := Aside0.mk (blk_below (g := gb1235) (o := .cells #[.int .u8 t1231, .int .i64 t1232, .string t1233] 39 (0, 0)) (by (with_reducible repeat (first | refine blk_drewN ?_ _ | refine blk_drew ?_ | refine blk_alloc ?_ _)); exact BK1235.out) hb); have n2_ := Aside0.mk (blk_below (g := gb1242) (o := .cells #[.int .u8 0, .int .i64 0, .string (⟨#[]⟩ : ByteArray)] 39 (0, 0)) (by (with_reducible repeat (first | refine blk_drewN ?_ _ | refine blk_drew ?_ | refine blk_alloc ?_ _)); exact BK1242.out) hb); have n3_ := Aside0.mk (below_step (by repeat (first | (with_reducible first | exact HB.out | apply below_alloc | apply pw_below_drewN | apply below_drew1 | refine below_set ?_ GE1234.out | refine below_set ?_ GE1235.out | refine below_set ?_ GE1242.out) | exact HB.out)) hb); have n4_ := Aside0.mk (hbox); have n5_ := Aside0.mk ((by rw [hg]; exact (below_size (by repeat (first | (with_reducible first | exact HB.out | apply below_alloc | apply pw_below_drewN | apply below_drew1 | refine below_set ?_ GE1234.out | refine below_set ?_ GE1235.out | refine below_set ?_ GE1242.out) | exact HB.out))) : w.heap.size ≤ gb1243)); have n6_ := Aside0.mk ((by rw [hg]; exact (below_size (by repeat (first | (with_reducible first | exact HB.out | apply below_alloc | apply pw_below_drewN | apply below_drew1 | refine below_set ?_ GE1234.out | refine below_set ?_ GE1235.out | refine below_set ?_ GE1242.out) | exact HB.out))) : w.heap.size ≤ gb1243)); have n7_ := Aside0.mk ((by rw [hg]; exact Nat.ne_of_lt (blk_lt (g := gb1234) (o := .cells #[.int .u8 t1228, .int .i64 t1229, .string t1230] 39 (0, 0)) (by (with_reducible repeat (first | refine blk_drewN ?_ _ | refine blk_drew ?_ | refine blk_alloc ?_ _)); exact BK1234.out)) : gb1234 ≠ gb1243)); have n8_ := Aside0.mk ((by rw [hg]; exact Nat.ne_of_gt (blk_lt (g := gb1234) (o := .cells #[.int .u8 t1228, .int .i64 t1229, .string t1230] 39 (0, 0)) (by (with_reducible repeat (first | refine blk_drewN ?_ _ | refine blk_drew ?_ | refine blk_alloc ?_ _)); exact BK1234.out)) : gb1243 ≠ gb1234)); have n9_ := Aside0.mk ((by rw [hg]; exact Nat.ne_of_lt (blk_lt (g := gb1235) (o := .cells #[.int .u8 t1231, .int .i64 t1232, .string t1233] 39 (0, 0)) (by (with_reducible repeat (first | refine blk_drewN ?_ _ | refine blk_drew ?_ | refine blk_alloc ?_ _)); exact BK1235.out)) : gb1235 ≠ gb1243)); have n10_ := Aside0.mk ((by rw [hg]; exact Nat.ne_of_gt (blk_lt (g := gb1235) (o := .cells #[.int .u8 t1231, .int .i64 t1232, .string t1233] 39 (0, 0)) (by (with_reducible repeat (first | refine blk_drewN ?_ _ | refine blk_drew ?_ | refine blk_alloc ?_ _)); exact BK1235.out)) : gb1243 ≠ gb1235)); have n11_ := Aside0.mk ((by rw [hg]; exact Nat.ne_of_lt (blk_lt (g := gb1242) (o := .cells #[.int .u8 0, .int .i64 0, .string (⟨#[]⟩ : ByteArray)] 39 (0, 0)) (by (with_reducible repeat (first | refine blk_drewN ?_ _ | refine blk_drew ?_ | refine blk_alloc ?_ _)); exact BK1242.out)) : gb1242 ≠ gb1243)); have n12_ := Aside0.mk ((by rw [hg]; exact Nat.ne_of_gt (blk_lt (g := gb1242) (o := .cells #[.int .u8 0, .int .i64 0, .string (⟨#[]⟩ : ByteArray)] 39 (0, 0)) (by (with_reducible repeat (first | refine blk_drewN ?_ _ | refine blk_drew ?_ | refine blk_alloc ?_ _)); exact BK1242.out)) : gb1243 ≠ gb1242)); clear BK1234; clear BK1235; clear BK1242; clear HB; have BK1234 := n0_; have BK1235 := n1_; have BK1242 := n2_; have HB := n3_; have BK1243 := n4_; have GW1243 := n5_; have GE1243 := n6_; have NB1234_1243 := n7_; have NB1243_1234 := n8_; have NB1235_1243 := n9_; have NB1243_1235 := n10_; have NB1242_1243 := n11_; have NB1243_1242 := n12_; clear n0_ n1_ n2_ n3_ n4_ n5_ n6_ n7_ n8_ n9_ n10_ n11_ n12_; clear hb hbox hg; have hnb63 := NB1242_1234.out; have hnc63 := NB1234_1242.out; have hnb64 := NB1242_1235.out; have hnc64 := NB1235_1242.out; have hnb65 := NB1242_1243.out; have hnc65 := NB1243_1242.out; have hcz66_0 : w62.cell? ⟨gb1242, 0, none⟩ = some (.int .u8 0) := (blk_cell BK1242.out 0).trans rfl; have hcz66_1 : w62.cell? ⟨gb1242, 1, none⟩ = some (.int .i64 0) := (blk_cell BK1242.out 1).trans rfl; have hcz66_2 : w62.cell? ⟨gb1242, 2, none⟩ = some (.string (⟨#[]⟩ : ByteArray)) := (blk_cell BK1242.out 2).trans rfl; have hfz66_0 := blk_frozen BK1242.out 0; have hfz66_1 := blk_frozen BK1242.out 1; have hfz66_2 := blk_frozen BK1242.out 2; have hnb67 := NB1243_1234.out; have hnc67 := NB1234_1243.out; have hnb68 := NB1243_1235.out; have hnc68 := NB1235_1243.out; have hcz69_0 : w62.cell? ⟨gb1243, 0, none⟩ = some (.int .u8 0) := (blk_cell BK1243.out 0).trans rfl; have hcz69_1 : w62.cell? ⟨gb1243, 1, none⟩ = some (.int .i64 0) := (blk_cell BK1243.out 1).trans rfl; have hcz69_2 : w62.cell? ⟨gb1243, 2, none⟩ = some (.string (⟨#[]⟩ : ByteArray)) := (blk_cell BK1243.out 2).trans rfl; have hfz69_0 := blk_frozen BK1243.out 0; have hfz69_1 := blk_frozen BK1243.out 1; have hfz69_2 := blk_frozen BK1243.out 2; have hcz70_0 : w62.cell? ⟨gb1234, 0, none⟩ = some (.int .u8 t1228) := (blk_cell BK1234.out 0).trans rfl; have hcz70_1 : w62.cell? ⟨gb1234, 1, none⟩ = some (.int .i64 t1229) := (blk_cell BK1234.out 1).trans rfl; have hcz70_2 : w62.cell? ⟨gb1234, 2, none⟩ = some (.string t1230) := (blk_cell BK1234.out 2).trans rfl; have hfz70_0 := blk_frozen BK1234.out 0; have hfz70_1 := blk_frozen BK1234.out 1; have hfz70_2 := blk_frozen BK1234.out 2))
            go_ret
            exact ⟨by first | rfl | (simp [errW_none, errW_some] <;> rfl) | (simp [*, errW_none, errW_some] <;> rfl), by repeat (first | (with_reducible first | exact HB.out | apply below_alloc | apply pw_below_drewN | apply below_drew1 | refine below_set ?_ GE1234.out | refine below_set ?_ GE1235.out | refine below_set ?_ GE1242.out | refine below_set ?_ GE1243.out) | exact HB.out)⟩

end Go.Proofs.Ytlmcefhpnfoahaa.P
end

section
namespace Go.Proofs.Ytlmcefhpnfoahaa.P
open Go.RowKit Go.Proofs.YtlmcefhpnfoahaaW.PrintWords Go.Proofs.YtlmcefhpnfoahaaW.PrintLast Go.Proofs.YtlmcefhpnfoahaaW.PrintMore
set_option linter.unusedVariables false
set_option linter.unusedSimpArgs false

theorem num256_be8v (n : Int) (h0 : 0 ≤ n) (h1 : n < 18446744073709551616) : num256 ([56, 48, 40, 32, 24, 16, 8, 0].map fun j : Nat => n / 2 ^ j % 256) = n := by
  simp only [num256, List.map_cons, List.map_nil, List.foldl_cons, List.foldl_nil, Int.reducePow, Int.zero_mul, Int.zero_add, Int.pow_zero, Int.ediv_one]
  omega
/-- Less, byte for byte. -/
def lx : List Int → List Int → Bool
  | _, [] => false
  | [], _ :: _ => true
  | a :: x, b :: y => decide (a < b) || (decide (a = b) && lx x y)
theorem lx_pre : ∀ (p r s : List Int), lx (p ++ r) (p ++ s) = lx r s := by
  intro p
  induction p with
  | nil => intro r s; rfl
  | cons c t ih => intro r s; simp [lx, ih]
def u8s (l : List Int) : List UInt8 := l.map fun n => UInt8.ofNat n.toNat
theorem strOfNums_u8s (l : List Int) : (strOfNums l).toList = u8s l := by
  rw [ByteArray.toList_eq]
  rfl
theorem lx_bytes : ∀ (a b : List Int), (∀ x ∈ a, isByte x = true) → (∀ x ∈ b, isByte x = true) → Op.bytesLess (u8s a) (u8s b) = lx a b := by
  intro a
  induction a with
  | nil =>
    intro b _ _
    cases b <;> rfl
  | cons c t ih =>
    intro b ha hb
    rcases b with _ | ⟨d, u⟩
    · rfl
    · have hc := ha c (by simp)
      have hd := hb d (by simp)
      simp only [isByte, Bool.and_eq_true, decide_eq_true_eq] at hc hd
      have h1 := ih u (fun x hx => ha x (by simp [hx])) (fun x hx => hb x (by simp [hx]))
      show (decide (UInt8.ofNat c.toNat < UInt8.ofNat d.toNat) || (UInt8.ofNat c.toNat == UInt8.ofNat d.toNat && Op.bytesLess (u8s t) (u8s u))) = _
      rw [h1]
      have e1 : (UInt8.ofNat c.toNat < UInt8.ofNat d.toNat) ↔ c < d := by
        rw [UInt8.lt_iff_toNat_lt, UInt8.toNat_ofNat', UInt8.toNat_ofNat']
        omega
      have e2 : (UInt8.ofNat c.toNat == UInt8.ofNat d.toNat) = decide (c = d) := by
        rw [Bool.eq_iff_iff, beq_iff_eq, decide_eq_true_eq, ← UInt8.toNat_inj, UInt8.toNat_ofNat', UInt8.toNat_ofNat']
        omega
      rw [e2]
      simp only [lx, e1]
theorem lx_strs (a b : List Int) (ha : ∀ x ∈ a, isByte x = true) (hb : ∀ x ∈ b, isByte x = true) : Op.bytesLess (strOfNums a).toList (strOfNums b).toList = lx a b := by
  rw [strOfNums_u8s, strOfNums_u8s, lx_bytes a b ha hb]
theorem lx_texts (s t : ByteArray) : Op.bytesLess s.toList t.toList = lx (bytesOf s) (bytesOf t) := by
  rw [← lx_strs _ _ (bytesOf_isByte s) (bytesOf_isByte t), strOfNums_bytesOf, strOfNums_bytesOf]
theorem num256_from : ∀ (t : List Int) (u : Int), t.foldl (fun u c => u * 256 + c) u = u * 256 ^ t.length + num256 t := by
  intro t
  induction t with
  | nil => intro u; simp [num256]
  | cons c t ih =>
    intro u
    have h1 := ih (u * 256 + c)
    have h2 := ih (0 * 256 + c)
    unfold num256
    simp only [List.foldl_cons, List.length_cons]
    rw [h1, h2, Int.pow_succ]
    simp only [Int.add_mul, Int.mul_assoc, Int.mul_comm 256, Int.zero_mul]
    omega
theorem num256_cons (c : Int) (t : List Int) : num256 (c :: t) = c * 256 ^ t.length + num256 t := by
  have := num256_from t (0 * 256 + c)
  rw [show num256 (c :: t) = t.foldl (fun u c => u * 256 + c) (0 * 256 + c) from rfl, this]
  simp
theorem lx_num : ∀ (a b r s : List Int), a.length = b.length → (∀ x ∈ a, isByte x = true) → (∀ x ∈ b, isByte x = true) → a ≠ b → lx (a ++ r) (b ++ s) = decide (num256 a < num256 b) := by
  intro a
  induction a with
  | nil =>
    intro b r s hl _ _ hn
    exact absurd (List.eq_nil_of_length_eq_zero hl.symm).symm hn
  | cons c t ih =>
    intro b r s hl ha hb hn
    rcases b with _ | ⟨d, u⟩
    · simp at hl
    · simp only [List.length_cons, Nat.add_right_cancel_iff] at hl
      have hat : ∀ x ∈ t, isByte x = true := fun x hx => ha x (by simp [hx])
      have hbt : ∀ x ∈ u, isByte x = true := fun x hx => hb x (by simp [hx])
      have n1 := num256_lt t hat t.length (Nat.le_refl _)
      have n2 := num256_lt u hbt u.length (Nat.le_refl _)
      rw [List.take_length] at n1 n2
      rw [← hl] at n2
      rw [num256_cons, num256_cons, ← hl]
      show (decide (c < d) || (decide (c = d) && lx (t ++ r) (u ++ s))) = _
      generalize hP : (256 : Int) ^ t.length = P at n1 n2 ⊢
      by_cases hcd : c = d
      · subst hcd
        rw [ih u r s hl hat hbt (fun e => hn (by rw [e]))]
        simp
      · rw [decide_eq_false hcd]
        simp only [Bool.false_and, Bool.or_false]
        rw [decide_eq_decide]
        constructor
        · intro h
          have : (c + 1) * P ≤ d * P := Int.mul_le_mul_of_nonneg_right (by omega) (by omega)
          rw [Int.add_mul] at this
          omega
        · intro h
          by_cases h2 : d < c
          · have : (d + 1) * P ≤ c * P := Int.mul_le_mul_of_nonneg_right (by omega) (by omega)
            rw [Int.add_mul] at this
            omega
          · omega
theorem lx_esc (r s : List Int) : ∀ (a b : List Int), (∀ x ∈ a, isByte x = true) → (∀ x ∈ b, isByte x = true) → a ≠ b → lx (esc a ++ 0 :: 1 :: r) (esc b ++ 0 :: 1 :: s) = lx a b := by
  intro a
  induction a with
  | nil =>
    intro b _ hb hn
    rcases b with _ | ⟨d, u⟩
    · exact absurd rfl hn
    · have hd := hb d (by simp)
      simp only [isByte, Bool.and_eq_true, decide_eq_true_eq] at hd
      by_cases h0 : d = 0
      · subst h0
        simp [esc, lx]
      · have : (0 : Int) < d := by omega
        simp [esc, lx, h0, this]
  | cons c t ih =>
    intro b ha hb hn
    have hc := ha c (by simp)
    simp only [isByte, Bool.and_eq_true, decide_eq_true_eq] at hc
    rcases b with _ | ⟨d, u⟩
    · by_cases h0 : c = 0
      · subst h0
        simp [esc, lx]
      · have : ¬ c < 0 := by omega
        simp [esc, lx, h0, this]
    · have hd := hb d (by simp)
      simp only [isByte, Bool.and_eq_true, decide_eq_true_eq] at hd
      have hat : ∀ x ∈ t, isByte x = true := fun x hx => ha x (by simp [hx])
      have hbt : ∀ x ∈ u, isByte x = true := fun x hx => hb x (by simp [hx])
      by_cases hcd : c = d
      · subst hcd
        have htu : t ≠ u := fun e => hn (by rw [e])
        have := ih u hat hbt htu
        by_cases h0 : c = 0
        · subst h0
          simp [esc, lx, this]
        · simp [esc, lx, h0, this]
      · by_cases h0 : c = 0
        · subst h0
          have h1 : ¬ d = 0 := fun e => hcd e.symm
          have h2 : (0 : Int) < d := by omega
          simp [esc, lx, h1, h2]
        · by_cases h1 : d = 0
          · subst h1
            have h2 : ¬ c < 0 := by omega
            simp [esc, lx, h0, h2]
          · simp [esc, lx, h0, h1, hcd]
/-- Less, value by value. -/
def lessV (x y : S39) : Bool := if x.f0 = y.f0 then (if x.f0 = 3 then Op.bytesLess x.f2.toList y.f2.toList else decide (x.f1 < y.f1)) else decide (x.f0 < y.f0)
theorem refLess (x y : S39) : tidelineref03_Less.f x.f0 x.f1 x.f2 y.f0 y.f1 y.f2 = some (lessV x y) := by
  unfold tidelineref03_Less.f lessV
  split
  · split <;> rfl
  · rfl
theorem encV_head (x : S39) (hm : mayB x = true) : ∃ t, encV x = (x.f0 + 1) :: t := by
  obtain ⟨x0, x1, x2⟩ := x
  simp only [mayB, Bool.or_eq_true, Bool.and_eq_true, beq_iff_eq] at hm
  rcases hm with ((⟨⟨rfl, rfl⟩, h⟩ | ⟨⟨rfl, h1⟩, h⟩) | ⟨rfl, h⟩) | ⟨rfl, rfl⟩ <;> exact ⟨_, rfl⟩
theorem lx_encV (x y : S39) (hx : mayB x = true) (hy : mayB y = true) (nx : okNum x = true) (ny : okNum y = true) (hn : x ≠ y) (r s : List Int) : lx (encV x ++ r) (encV y ++ s) = lessV x y := by
  by_cases h0 : x.f0 = y.f0
  · obtain ⟨x0, x1, x2⟩ := x
    obtain ⟨y0, y1, y2⟩ := y
    simp only at h0
    subst h0
    simp only [okNum, Bool.and_eq_true, decide_eq_true_eq] at nx ny
    simp only [mayB, Bool.or_eq_true, Bool.and_eq_true, beq_iff_eq] at hx hy
    rcases hx with ((⟨⟨rfl, rfl⟩, h⟩ | ⟨⟨rfl, h1⟩, h⟩) | ⟨rfl, h⟩) | ⟨rfl, rfl⟩
    · rcases hy with ((⟨⟨g0, rfl⟩, g⟩ | ⟨⟨g0, g1⟩, g⟩) | ⟨g0, g⟩) | ⟨g0, rfl⟩ <;> try (exact absurd g0 (by decide))
      rw [empty_of _ h, empty_of _ g] at hn
      exact absurd rfl hn
    · rcases hy with ((⟨⟨g0, rfl⟩, g⟩ | ⟨⟨g0, g1⟩, g⟩) | ⟨g0, g⟩) | ⟨g0, rfl⟩ <;> try (exact absurd g0 (by decide))
      obtain rfl := empty_of _ h
      obtain rfl := empty_of _ g
      rcases h1 with rfl | rfl <;> rcases g1 with rfl | rfl <;> first | exact absurd rfl hn | rfl
    · rcases hy with ((⟨⟨g0, rfl⟩, g⟩ | ⟨⟨g0, g1⟩, g⟩) | ⟨g0, g⟩) | ⟨g0, rfl⟩ <;> try (exact absurd g0 (by decide))
      obtain rfl := empty_of _ h
      obtain rfl := empty_of _ g
      have hne : x1 ≠ y1 := fun e => hn (by rw [e])
      show lx (3 :: be8 x1 ++ r) (3 :: be8 y1 ++ s) = decide (x1 < y1)
      have e : lx (3 :: be8 x1 ++ r) (3 :: be8 y1 ++ s) = lx (be8 x1 ++ r) (be8 y1 ++ s) := by simp [lx]
      have v1 : num256 (be8 x1) = x1 + 9223372036854775808 := num256_be8v _ (by omega) (by omega)
      have v2 : num256 (be8 y1) = y1 + 9223372036854775808 := num256_be8v _ (by omega) (by omega)
      have hb : ∀ n : Int, ∀ c ∈ be8 n, isByte c = true := by
        intro n c h
        unfold be8 at h
        obtain ⟨j, _, rfl⟩ := List.mem_map.mp h
        simp only [isByte, Bool.and_eq_true, decide_eq_true_eq]
        omega
      rw [e, lx_num (be8 x1) (be8 y1) _ _ ((be8_length x1).trans (be8_length y1).symm) (hb x1) (hb y1) (fun e => hne (by rw [e] at v1; omega)), v1, v2, decide_eq_decide]
      omega
    · rcases hy with ((⟨⟨g0, rfl⟩, g⟩ | ⟨⟨g0, g1⟩, g⟩) | ⟨g0, g⟩) | ⟨g0, rfl⟩ <;> try (exact absurd g0 (by decide))
      show lx (4 :: (esc (bytesOf x2) ++ [0, 1]) ++ r) (4 :: (esc (bytesOf y2) ++ [0, 1]) ++ s) = Op.bytesLess x2.toList y2.toList
      have hne : bytesOf x2 ≠ bytesOf y2 := fun e => hn (by rw [← strOfNums_bytesOf x2, e, strOfNums_bytesOf])
      rw [lx_texts, ← lx_esc r s _ _ (bytesOf_isByte x2) (bytesOf_isByte y2) hne]
      simp [lx]
  · obtain ⟨t, ht⟩ := encV_head x hx
    obtain ⟨u, hu⟩ := encV_head y hy
    rw [ht, hu]
    unfold lessV
    rw [if_neg h0]
    have e1 : ¬ x.f0 + 1 = y.f0 + 1 := by omega
    have e2 : (x.f0 + 1 < y.f0 + 1) ↔ (x.f0 < y.f0) := by omega
    simp [lx, e1, e2, h0]
end Go.Proofs.Ytlmcefhpnfoahaa.P
end

section
namespace Go.Proofs.Ytlmcefhpnfoahaa.P
open Go.RowKit Go.Proofs.YtlmcefhpnfoahaaW.PrintWords Go.Proofs.YtlmcefhpnfoahaaW.PrintLast Go.Proofs.YtlmcefhpnfoahaaW.PrintMore
set_option linter.unusedVariables false
set_option linter.unusedSimpArgs false

theorem cmp_less : ∀ a b : List UInt8, decide (Lib.compareBytes a b < 0) = Op.bytesLess a b := by
  intro a
  induction a with
  | nil => intro b; cases b <;> rfl
  | cons x t ih =>
    intro b
    rcases b with _ | ⟨y, u⟩
    · rfl
    · show decide ((if x < y then (-1 : Int) else if y < x then 1 else Lib.compareBytes t u) < 0) = (decide (x < y) || (x == y && Op.bytesLess t u))
      by_cases h1 : x < y
      · rw [if_pos h1, decide_eq_true h1]; rfl
      · rw [if_neg h1, decide_eq_false h1, Bool.false_or]
        by_cases h2 : y < x
        · have h3 : (x == y) = false := by
            rw [Bool.eq_false_iff]
            intro h
            have := beq_iff_eq.mp h
            subst this
            exact h1 h2
          rw [if_pos h2, h3]; rfl
        · have h3 : x = y := by
            rw [UInt8.lt_iff_toNat_lt] at h1 h2
            rw [← UInt8.toNat_inj]; omega
          rw [if_neg h2, ih u, h3]; simp
def okM (x : S39) : Prop := mayB x = true ∧ okNum x = true ∧ x.f2.size ≤ 400000
theorem encV_bytesb (x : S39) : ∀ c ∈ encV x, isByte c = true := by
  have hmod : ∀ n : Int, isByte (n % 256) = true := by
    intro n
    simp only [isByte, Bool.and_eq_true, decide_eq_true_eq]
    omega
  have hesc : ∀ l : List Int, (∀ c ∈ l, isByte c = true) → ∀ c ∈ esc l, isByte c = true := by
    intro l
    induction l with
    | nil => intro _ c h; cases h
    | cons d t ih =>
      intro hb c h
      simp only [esc] at h
      have ht : ∀ c ∈ t, isByte c = true := fun c hc => hb c (by simp [hc])
      split at h
      · simp only [List.mem_cons] at h
        rcases h with rfl | rfl | h
        · rfl
        · rfl
        · exact ih ht c h
      · simp only [List.mem_cons] at h
        rcases h with rfl | h
        · exact hb _ (by simp)
        · exact ih ht c h
  intro c h
  unfold encV at h
  split at h
  · simp at h; subst h; rfl
  · split at h
    · simp at h
      rcases h with rfl | rfl
      · rfl
      · exact hmod _
    · split at h
      · simp only [List.mem_cons] at h
        rcases h with rfl | h
        · rfl
        · unfold be8 at h
          obtain ⟨j, _, rfl⟩ := List.mem_map.mp h
          exact hmod _
      · simp only [List.mem_cons, List.mem_append, List.not_mem_nil, or_false] at h
        rcases h with rfl | h | rfl | rfl
        · rfl
        · exact hesc _ (bytesOf_isByte _) c h
        · rfl
        · rfl
theorem append_one (x : S39) (h : okM x) : key_Append.f [] [x] = some (encV x ++ [], 0) := by
  obtain ⟨hm, hn, hs⟩ := h
  have hl : (encR [x]).length ≤ 1000000 := by
    have := encV_len x
    simp [encR]
    omega
  rw [append_f [x] hl (by simp [hn])]
  simp [hm, encR]
theorem lessV_self (x : S39) : lessV x x = false := by
  unfold lessV
  rw [if_pos rfl]
  split
  · have := lx_texts x.f2 x.f2
    rw [this]
    have := lx_pre (bytesOf x.f2) [] []
    rw [List.append_nil] at this
    rw [this]; rfl
  · simp
theorem bnd_less (x y : S39) (hx : okM x) (hy : okM y) : column_Bounds_1.f x.f0 x.f1 x.f2 y.f0 y.f1 y.f2 = some (lessV x y) := by
  unfold column_Bounds_1.f
  rw [show (⟨x.f0, x.f1, x.f2⟩ : S39) = x from rfl, show (⟨y.f0, y.f1, y.f2⟩ : S39) = y from rfl, append_one x hx, append_one y hy, Option.bind_some, Option.bind_some]
  unfold bytes_Compare.f
  rw [Option.bind_some, cmp_less]
  have e : ∀ l : List Int, Lib.bytesOf l = u8s l := fun _ => rfl
  have bx : ∀ c ∈ encV x ++ [], isByte c = true := by rw [List.append_nil]; exact encV_bytesb x
  have by_ : ∀ c ∈ encV y ++ [], isByte c = true := by rw [List.append_nil]; exact encV_bytesb y
  rw [e, e, lx_bytes _ _ bx by_]
  congr 1
  by_cases h : x = y
  · subst h
    rw [lessV_self]
    have := lx_pre (encV x ++ []) [] []
    rw [List.append_nil (encV x ++ [])] at this
    rw [this]; rfl
  · exact lx_encV x y hx.1 hy.1 hx.2.1 hy.2.1 h [] []
def bLo (a v : S39) : S39 := if v.f0 = 0 then a else if a.f0 = 0 then v else if lessV v a = true then v else a
def bHi (b v : S39) : S39 := if v.f0 = 0 then b else if b.f0 = 0 then v else if lessV b v = true then v else b
def bnds : List S39 → S39 → S39 → S39 × S39
  | [], a, b => (a, b)
  | v :: t, a, b => bnds t (bLo a v) (bHi b v)
def fl6 (p : S39 × S39) : Int × Int × ByteArray × Int × Int × ByteArray := (p.1.f0, p.1.f1, p.1.f2, p.2.f0, p.2.f1, p.2.f2)
theorem bLo_ok (a v : S39) (ha : okM a) (hv : okM v) : okM (bLo a v) := by unfold bLo; (repeat' split) <;> assumption
theorem bHi_ok (a v : S39) (ha : okM a) (hv : okM v) : okM (bHi a v) := by unfold bHi; (repeat' split) <;> assumption
theorem bounds_l0 (l : List S39) (hl : l.length ≤ 1000000) (hm : ∀ x ∈ l, okM x) : ∀ (d k i : Nat) (a b : S39), i + d = l.length → 2 * d < k → okM a → okM b →
    column_Bounds.l0 k l (l.length : Int) i a.f0 a.f1 a.f2 b.f0 b.f1 b.f2 = some (fl6 (bnds (l.drop i) a b)) := by
  intro d
  induction d with
  | zero =>
    intro k i a b hi hk ha hb
    obtain ⟨k, rfl⟩ : ∃ j, k = j + 1 := ⟨k - 1, by omega⟩
    rw [column_Bounds.l0, if_neg (by omega), List.drop_of_length_le (by omega)]
    rfl
  | succ d ih =>
    intro k i a b hi hk ha hb
    obtain ⟨k, rfl⟩ : ∃ j, k = j + 2 := ⟨k - 2, by omega⟩
    have hlt : i < l.length := by omega
    have hv := hm _ (rdT_mem hlt)
    have e : bnds (l.drop i) a b = bnds (l.drop (i + 1)) (bLo a (rd_T39 l i)) (bHi b (rd_T39 l i)) := by rw [List.drop_eq_getElem_cons hlt, rdT_get hlt]; rfl
    have h1 := ih (k + 1) (i + 1) (bLo a (rd_T39 l i)) (bHi b (rd_T39 l i)) (by omega) (by omega) (bLo_ok a _ ha hv) (bHi_ok b _ hb hv)
    have h2 := ih k (i + 1) (bLo a (rd_T39 l i)) (bHi b (rd_T39 l i)) (by omega) (by omega) (bLo_ok a _ ha hv) (bHi_ok b _ hb hv)
    rw [← e] at h1 h2
    rw [column_Bounds.l0, if_pos (by omega), if_pos (by omega), if_pos (by omega), w64s i (by omega)]
    clear e
    obtain ⟨v, hvv⟩ : ∃ v, v = rd_T39 l (i : Int) := ⟨_, rfl⟩
    rw [← hvv] at hv h1 h2 ⊢
    by_cases h0 : v.f0 = 0
    · rw [if_pos h0]
      rw [show bLo a v = a by unfold bLo; rw [if_pos h0], show bHi b v = b by unfold bHi; rw [if_pos h0]] at h1
      exact h1
    · rw [if_neg h0]
      have hlo : ∀ q, (q = true → bLo a v = v) → (q = false → bLo a v = a) → column_Bounds.j1 (k + 1) l (l.length : Int) i q a.f0 a.f1 a.f2 b.f0 b.f1 b.f2 v.f0 v.f1 v.f2 = some (fl6 (bnds (l.drop i) a b)) := by
        intro q q1 q2
        rw [column_Bounds.j1, w64s i (by omega)]
        by_cases hb0 : b.f0 = 0
        · have e2 : bHi b v = v := by unfold bHi; rw [if_neg h0, if_pos hb0]
          rw [e2] at h2
          cases q with
          | true => rw [q1 rfl] at h2; rw [if_pos rfl, if_pos hb0]; exact h2
          | false => rw [q2 rfl] at h2; rw [if_neg (by decide), if_pos hb0]; exact h2
        · rw [if_neg hb0, bnd_less b v hb hv, Option.bind_some, Option.bind_some, if_neg hb0]
          by_cases hq : lessV b v = true
          · have e2 : bHi b v = v := by unfold bHi; rw [if_neg h0, if_neg hb0, if_pos hq]
            rw [e2] at h2
            cases q with
            | true => rw [q1 rfl] at h2; rw [if_pos rfl, if_pos hq]; exact h2
            | false => rw [q2 rfl] at h2; rw [if_neg (by decide), if_pos hq]; exact h2
          · have e2 : bHi b v = b := by unfold bHi; rw [if_neg h0, if_neg hb0, if_neg hq]
            rw [e2] at h2
            cases q with
            | true => rw [q1 rfl] at h2; rw [if_pos rfl, if_neg hq]; exact h2
            | false => rw [q2 rfl] at h2; rw [if_neg (by decide), if_neg hq]; exact h2
      by_cases ha0 : a.f0 = 0
      · rw [if_pos ha0]
        exact hlo true (fun _ => by unfold bLo; rw [if_neg h0, if_pos ha0]) (fun h => by cases h)
      · rw [if_neg ha0, bnd_less v a hv ha, Option.bind_some]
        exact hlo _ (fun h => by unfold bLo; rw [if_neg h0, if_neg ha0, if_pos h]) (fun h => by unfold bLo; rw [if_neg h0, if_neg ha0, if_neg (by rw [h]; decide)])
theorem okM_zero : okM z39 := ⟨by simp [mayB, z39], by decide, Nat.zero_le _⟩
theorem bounds_f (l : List S39) (hl : l.length ≤ 1000000) (hm : ∀ x ∈ l, okM x) (k : Nat) (hk : 2 * l.length < k) : column_Bounds.f k l = some (fl6 (bnds l z39 z39)) := by
  have := bounds_l0 l hl hm l.length k 0 z39 z39 (by omega) hk okM_zero okM_zero
  unfold column_Bounds.f
  rw [List.drop_zero] at this
  exact this
end Go.Proofs.Ytlmcefhpnfoahaa.P
end

section
namespace Go.Proofs.Ytlmcefhpnfoahaa.P
open Go.RowKit Go.Proofs.YtlmcefhpnfoahaaW.PrintWords Go.Proofs.YtlmcefhpnfoahaaW.PrintLast Go.Proofs.YtlmcefhpnfoahaaW.PrintMore
set_option linter.unusedVariables false
set_option linter.unusedSimpArgs false

theorem refB_l1 (M : List S39) (hl : M.length ≤ 1000000) (hm : ∀ x ∈ M, x.f0 ≠ 0) : ∀ (d k i : Nat) (a b : S39), i + d = M.length → d < k → a.f0 ≠ 0 → b.f0 ≠ 0 →
    tidelineref06_Bounds.l1 k M i a.f0 a.f1 a.f2 b.f0 b.f1 b.f2 = some (fl6 (bnds (M.drop i) a b)) := by
  intro d
  induction d with
  | zero =>
    intro k i a b hi hk ha hb
    obtain ⟨k, rfl⟩ : ∃ j, k = j + 1 := ⟨k - 1, by omega⟩
    rw [tidelineref06_Bounds.l1, if_neg (by omega), List.drop_of_length_le (by omega)]
    rfl
  | succ d ih =>
    intro k i a b hi hk ha hb
    obtain ⟨k, rfl⟩ : ∃ j, k = j + 1 := ⟨k - 1, by omega⟩
    have hlt : i < M.length := by omega
    have hv := hm _ (rdT_mem hlt)
    have e : bnds (M.drop i) a b = bnds (M.drop (i + 1)) (bLo a (rd_T39 M i)) (bHi b (rd_T39 M i)) := by rw [List.drop_eq_getElem_cons hlt, rdT_get hlt]; rfl
    have h1 := fun a b => ih k (i + 1) a b (by omega) (by omega)
    rw [e, tidelineref06_Bounds.l1, if_pos (by omega), if_pos (by omega), w64s i (by omega)]
    clear e
    obtain ⟨v, hvv⟩ : ∃ v, v = rd_T39 M (i : Int) := ⟨_, rfl⟩
    rw [← hvv] at hv ⊢
    rw [refLess v a, refLess b v, Option.bind_some, Option.bind_some]
    unfold bLo bHi
    rw [if_neg hv, if_neg hv, if_neg ha, if_neg hb]
    by_cases q1 : lessV v a = true
    · by_cases q2 : lessV b v = true
      · rw [if_pos q1, if_pos q2, if_pos q1, if_pos q2]; exact h1 v v hv hv
      · rw [if_pos q1, if_neg q2, if_pos q1, if_neg q2]; exact h1 v b hv hb
    · by_cases q2 : lessV b v = true
      · rw [if_neg q1, Option.bind_some, if_pos q2, if_neg q1, if_pos q2]; exact h1 a v ha hv
      · rw [if_neg q1, Option.bind_some, if_neg q2, if_neg q1, if_neg q2]; exact h1 a b ha hb
theorem bnds_marks : ∀ (l : List S39) (a b : S39), bnds l a b = bnds (marksOf l) a b := by
  intro l
  induction l with
  | nil => intro a b; rfl
  | cons v t ih =>
    intro a b
    by_cases h0 : v.f0 = 0
    · have e : marksOf (v :: t) = marksOf t := by simp [marksOf, nulV, h0]
      have e1 : bLo a v = a := by unfold bLo; rw [if_pos h0]
      have e2 : bHi b v = b := by unfold bHi; rw [if_pos h0]
      rw [e, ← ih]
      show bnds t (bLo a v) (bHi b v) = _
      rw [e1, e2]
    · have e : marksOf (v :: t) = v :: marksOf t := by simp [marksOf, nulV, h0]
      rw [e]
      exact ih _ _
theorem marks_ne (l : List S39) : ∀ x ∈ marksOf l, x.f0 ≠ 0 := by
  intro x hx
  have := (List.mem_filter.mp hx).2
  simpa [nulV] using this
theorem marks_drop (l : List S39) (i : Nat) (h : i < l.length) : marksOf (l.drop i) = (if (rd_T39 l (i : Int)).f0 = 0 then [] else [rd_T39 l (i : Int)]) ++ marksOf (l.drop (i + 1)) := by
  rw [List.drop_eq_getElem_cons h, ← rdT_get h]
  by_cases h0 : (rd_T39 l (i : Int)).f0 = 0 <;> simp [marksOf, nulV, h0]
theorem marks_len (l : List S39) : (marksOf l).length ≤ l.length := List.length_filter_le _ _
theorem refB_l0 (l : List S39) (hl : l.length ≤ 1000000) : ∀ (d k i : Nat) (X : List S39), i + d = l.length → d + l.length + 2 < k → X ++ marksOf (l.drop i) = marksOf l →
    tidelineref06_Bounds.l0 k l X i = some (fl6 (bnds l z39 z39)) := by
  intro d
  induction d with
  | zero =>
    intro k i X hi hk hX
    obtain ⟨k, rfl⟩ : ∃ j, k = j + 1 := ⟨k - 1, by omega⟩
    rw [List.drop_of_length_le (by omega)] at hX
    obtain rfl : X = marksOf l := by simpa [marksOf, nulV] using hX
    have hle := marks_len l
    rw [tidelineref06_Bounds.l0, if_neg (by omega), bnds_marks]
    have hne := marks_ne l
    obtain ⟨M, hM⟩ : ∃ M, M = marksOf l := ⟨_, rfl⟩
    rw [← hM] at hle hne ⊢
    cases M with
    | nil => rfl
    | cons m t =>
      have hm := hne m (by simp)
      rw [if_neg (by rw [List.length_cons]; omega), if_pos (by rw [List.length_cons]; omega)]
      have := refB_l1 (m :: t) (by omega) hne t.length k 1 m m (by rw [List.length_cons]; omega) (by rw [List.length_cons] at hle; omega) hm hm
      have e1 : bLo z39 m = m := by unfold bLo; rw [if_neg hm, if_pos (show z39.f0 = 0 from rfl)]
      have e2 : bHi z39 m = m := by unfold bHi; rw [if_neg hm, if_pos (show z39.f0 = 0 from rfl)]
      show _ = some (fl6 (bnds t (bLo z39 m) (bHi z39 m)))
      rw [e1, e2]
      exact this
  | succ d ih =>
    intro k i X hi hk hX
    obtain ⟨k, rfl⟩ : ∃ j, k = j + 1 := ⟨k - 1, by omega⟩
    have hlt : i < l.length := by omega
    rw [marks_drop l i hlt] at hX
    have hlX : X.length ≤ l.length := by
      have h1 := congrArg List.length hX
      have h2 := marks_len l
      rw [List.length_append] at h1
      omega
    rw [tidelineref06_Bounds.l0, if_pos (by omega), if_pos (by omega), w64s i (by omega)]
    by_cases h0 : (rd_T39 l (i : Int)).f0 = 0
    · rw [if_pos h0] at hX ⊢
      exact ih k (i + 1) X (by omega) (by omega) (by simpa using hX)
    · rw [if_neg h0] at hX ⊢
      rw [if_pos (by omega)]
      exact ih k (i + 1) _ (by omega) (by omega) (by rw [List.append_assoc]; exact hX)
theorem refBounds_f (l : List S39) (hl : l.length ≤ 1000000) (k : Nat) (hk : 2 * l.length + 2 < k) : tidelineref06_Bounds.f k l = some (fl6 (bnds l z39 z39)) := by
  unfold tidelineref06_Bounds.f
  exact refB_l0 l hl l.length k 0 [] (by omega) (by omega) (by rw [List.drop_zero]; rfl)
end Go.Proofs.Ytlmcefhpnfoahaa.P
end

section
namespace Go.Proofs.Ytlmcefhpnfoahaa.P
open Go.RowKit Go.Proofs.YtlmcefhpnfoahaaW.PrintWords Go.Proofs.YtlmcefhpnfoahaaW.PrintLast Go.Proofs.YtlmcefhpnfoahaaW.PrintMore
set_option linter.unusedVariables false
set_option linter.unusedSimpArgs false

theorem colBounds_l0 (l : List S39) (hl : l.length ≤ 500) (hw : ∀ x ∈ l, okVal x) (hs : ∀ x ∈ l, x.f2.size ≤ 300) : ∀ (d k i : Nat), i + d = l.length → d + 1100 < k → (∀ j, j < i → mayB (rd_T39 l (j : Int)) = true) → tidelinelaw06_ColumnBounds.l0 k l (i : Int) = some true := by
  intro d
  induction d with
  | zero =>
    intro k i hi hk hm
    obtain ⟨k, rfl⟩ : ∃ j, k = j + 1 := ⟨k - 1, by omega⟩
    have hn := okNum_of l hw
    have hok : ∀ x ∈ l, okM x := fun x hx => by
      obtain ⟨j, hj, e⟩ := List.getElem_of_mem hx
      refine ⟨?_, by rw [List.all_eq_true] at hn; exact hn x hx, by have := hs x hx; omega⟩
      have := hm j (by omega)
      rwa [rdT_get hj, e] at this
    rw [tidelinelaw06_ColumnBounds.l0, if_neg (by omega), bounds_f l (by omega) hok k (by omega), Option.bind_some, refBounds_f l (by omega) k (by omega), Option.bind_some, if_pos (by simp), if_pos (by simp)]
    rfl
  | succ d ih =>
    intro k i hi hk hm
    obtain ⟨k, rfl⟩ : ∃ j, k = j + 1 := ⟨k - 1, by omega⟩
    have hlt : i < l.length := by omega
    rw [tidelinelaw06_ColumnBounds.l0, if_pos (by omega), if_pos (by omega), refMay (hw _ (rdT_mem hlt)).1.1, Option.bind_some, w64s i (by omega)]
    by_cases h : mayB (rd_T39 l i) = true
    · rw [if_pos h]
      exact ih k (i + 1) (by omega) (by omega) (fun j hj => by
        by_cases hji : j = i
        · rw [hji]; exact h
        · exact hm j (by omega))
    · rw [if_neg h]
      rfl
theorem colBounds_f (l : List S39) (hw : ∀ x ∈ l, okVal x) : tidelinelaw06_ColumnBounds.f 5000 l = some true := by
  unfold tidelinelaw06_ColumnBounds.f
  obtain ⟨r, hr, hp⟩ := long6_k l 5000 (by decide)
  rw [hr, Option.bind_some]
  cases r with
  | true => rw [if_pos rfl]
  | false =>
    obtain ⟨h1, h2⟩ := hp rfl
    rw [if_neg (by decide)]
    exact colBounds_l0 l h1 hw h2 l.length 5000 0 (by omega) (by omega) (fun j hj => by omega)
theorem walk_ColumnBounds (A0 : Option Addr) (c0 : Nat) (l0 : List S39) (w : World)
    (hr0 : Kd.C k39 w A0 l0.length l0) (hc0 : l0.length ≤ c0) (hm0 : l0.length ≤ maxLen) (hw0 : ∀ x ∈ l0, okVal x) :
    Calls Try.prog 22 #[.slice A0 l0.length c0] w fun e w' => e = .returned (.bool true) ∧ Below w.heap.size w w' :=
  tidelinelaw06_ColumnBounds.calls _ A0 c0 l0 true w hr0 hc0 (colBounds_f l0 hw0)
end Go.Proofs.Ytlmcefhpnfoahaa.P
end

section
/- The row of the law ColumnBounds: at every input it answers true, and each argument reads behind the call as it did. No condition. -/
namespace Go.Proofs.Ytlmcefhpnfoahaa.columnBounds
open Go.ChangeShapes Go.WideShapes Go.ChangeAt Go.RowKit Go.Proofs.Ytlmcefhpnfoahaa.P
open Go.ChangeMaps (open_string shut_string)
set_option linter.unusedVariables false
theorem own : ownKnob Try.prog.godebug = none := by kernel_rfl
theorem laidOut : laidOutB Try.prog = true := by kernel_rfl
set_option maxRecDepth 100000 in
theorem lifted (os : Os) (started : os.Started) (H : Type) (enc : TypeId × Value → H) :
    ReturnsInHanded {} Try.checked os 22 .any (Rows.columnBoundsSpec.pre6 enc Try.prog Try.f22 Rows.columnBoundsRow.domain false) (Rows.columnBoundsSpec.post enc Try.prog Try.f22 false true false false) := by
  refine returnsInHanded_of_change_sized (C := Try.checked) own started (by kernel_rfl) Try.func22
    (ChangeSpec.witness6 (enc := enc) (C := Try.checked) false ⟨#[], #[.slice none 0 0], []⟩ 8 (by kernel_rfl) (by kernel_rfl) (by kernel_rfl) (by kernel_rfl)) ?_
  intro W base args ds gs before hval0 hW hcnd hsz0 _
  have hval : ∀ (j : Nat) t v, Try.f22.params[j]? = some t → args[j]? = some v → Value.okWide Try.prog W .any base t v := hval0
  have hW' := hW
  obtain ⟨p, q, hA0, hV, rfl, hfz, hnd⟩ := hW
  have hA : DataW.TrodAll enc Try.prog W 0 (fun _ => true) true Try.f22.params.toList args.toList ds p := hA0
  rw [Try.params22] at hA hval
  obtain ⟨v0, vs0, d0, ds0, p0, q0, hargs, rfl, rfl, h0, r0⟩ := trodAll_cons hA
  obtain ⟨rfl, rfl, rfl⟩ := trodAll_nil r0
  obtain rfl : args = #[v0] := by cases args; simp_all
  obtain ⟨rfl, rfl⟩ := trodVars_none hV
  obtain ⟨a0, len0, cap0, rfl⟩ := okWide_slice Try.underlying23 (hval 0 23 v0 rfl rfl)
  have k0 := h0
  have lt0 : ∀ x ∈ p0, x.block < W.heap.size := by obtain ⟨m, hm⟩ := k0; exact DataW.trod_lt m _ _ _ hm
  obtain ⟨l0, rfl, y0, z0, m0, w0⟩ := open_arg z39 Try.underlying23 (by kernel_rfl) tells_val h0
  clear hA0 hval0 hsz0
  refine (walk_ColumnBounds a0 cap0 l0 W z0 y0 m0 w0).mono fun e W' ⟨he, bel⟩ => ?_
  subst he
  exact ⟨_, rfl, _, _, _, [], _, [], hW', trodAll_mk1 (shut_bool Try.underlying4 _), (trodAll_cons_mk (Below.trod laidOut (by kernel_rfl) (of_decide_eq_true (by kernel_rfl)) k0 bel lt0) trodAll_mk0), rfl, bel.frame _, fun h => by cases h⟩
theorem k_wf : Rows.columnBoundsRow.wf (OpenSpec.ofChange Rows.columnBoundsSpec) = true := by kernel_rfl
theorem k_params : Try.f22.params.all (Try.prog.readableRec ·) = true := by kernel_rfl
theorem k_tie : namedTie Try.prog Rows.columnBoundsRow.named Rows.columnBoundsSpec.vars = true := by kernel_rfl
theorem k_inPlace : (Rows.columnBoundsRow.inPlace == Try.prog.inPlace 22) = true := by kernel_rfl
theorem k_unfollowed : (Rows.columnBoundsRow.unfollowed == Try.prog.unfollowed 22) = true := by kernel_rfl
theorem k_recurses : (Rows.columnBoundsRow.recurses == Try.prog.recurses 22) = true := by kernel_rfl
theorem k_named : (Rows.columnBoundsRow.named == Try.prog.varsNamed 22) = true := by kernel_rfl
theorem k_maps : (Rows.columnBoundsRow.maps == (Try.f22.params.toList ++ Rows.columnBoundsSpec.plain.varTypes Try.prog).any (Try.prog.mapsRec ·)) = true := by kernel_rfl
theorem k_ifaces : (Rows.columnBoundsRow.ifaces == (Try.f22.params.toList ++ Rows.columnBoundsSpec.plain.varTypes Try.prog).any (Try.prog.ifacesRec ·)) = true := by kernel_rfl
theorem k_mapsOut : (Rows.columnBoundsRow.mapsOut == Try.prog.mapsAmong Try.f22.resultTypes.toList) = true := by kernel_rfl
theorem k_loops : (Rows.columnBoundsRow.loops == (Try.f22.params.toList ++ Rows.columnBoundsSpec.plain.varTypes Try.prog).any (Try.prog.loopsFrom ·)) = true := by kernel_rfl
theorem k_wideKeys : (Rows.columnBoundsRow.wideKeys == ((Try.f22.params.toList ++ Rows.columnBoundsSpec.plain.varTypes Try.prog) ++ Try.f22.resultTypes.toList).any (Try.prog.wideKeysFrom ·)) = true := by kernel_rfl
theorem k_results : Try.f22.resultTypes.all (fun t => Try.prog.readableRec t && decide (t < Try.prog.types.size)) = true := by kernel_rfl
theorem k_ifacesOut : (Rows.columnBoundsRow.ifacesOut == Try.f22.resultTypes.toList.any (Try.prog.ifacesRec ·)) = true := by kernel_rfl
theorem k_loopsOut : (Rows.columnBoundsRow.loopsOut == Try.f22.resultTypes.toList.any (Try.prog.loopsFrom ·)) = true := by kernel_rfl
theorem k_veiled : (Rows.columnBoundsRow.veiled == ((Try.f22.params.toList ++ Rows.columnBoundsSpec.plain.varTypes Try.prog) ++ Try.f22.resultTypes.toList).any (Try.prog.veiledRec ·)) = true := by kernel_rfl
theorem k_fits : Rows.columnBoundsRow.veiledFits Try.prog Try.f22.params.toList ((Try.f22.params.toList ++ Rows.columnBoundsSpec.plain.varTypes Try.prog) ++ Try.f22.resultTypes.toList) = true := by kernel_rfl
theorem k_kinds : (Rows.columnBoundsRow.kinds == (if Rows.columnBoundsRow.domain.isEmpty then [] else Try.f22.params.toList.map fun t => match Try.prog.underlying t with | some (.int k) => some k | _ => none)) = true := by kernel_rfl
theorem k_pins : (Rows.columnBoundsRow.pinned == Rows.columnBoundsRow.pinnedBy) = true := by kernel_rfl
theorem k_stops : (Rows.columnBoundsRow.stops == []) = true := by kernel_rfl
theorem k_knobs : (Rows.columnBoundsRow.knobs == []) = true := by kernel_rfl
theorem k_vars : Rows.columnBoundsSpec.vars.all (Try.prog.varReadable ·) = true := by kernel_rfl
theorem k_plain : Rows.columnBoundsRow.plainKeys = true := by kernel_rfl
theorem k_short : Rows.columnBoundsRow.shortTexts.isNone = true := by kernel_rfl
theorem k_lift : Rows.columnBoundsRow.lifted = false := by kernel_rfl
theorem k_make : Rows.columnBoundsRow.make = .cut := by kernel_rfl
theorem k_func : Try.prog.funcNamed Rows.columnBoundsRow.func = some 22 := by kernel_rfl
theorem k_plain2 : (Rows.columnBoundsRow.plainKeys == Try.prog.plainKeys) = (Rows.columnBoundsRow.plainKeys == true) := by rw [fact_plainKeys]
theorem k_lift2 : (Rows.columnBoundsRow.lifted == Try.prog.liftsFinal) = (Rows.columnBoundsRow.lifted == false) := by rw [fact_liftsFinal]
theorem k_make2 : (Try.prog.make == some Rows.columnBoundsRow.make) = true := by rw [fact_make, k_make]; rfl
set_option maxRecDepth 100000 in
theorem closed : joinedFacts Try.prog 22 Try.f22 Rows.columnBoundsSpec Rows.columnBoundsRow = true :=
  joined_of Try.prog 22 Try.f22 Rows.columnBoundsSpec Rows.columnBoundsRow k_wf fact_laidOut fact_mapsRowed k_params k_tie k_stops fact_stops k_knobs fact_stopKnobs k_inPlace k_unfollowed k_recurses k_named k_maps k_ifaces k_mapsOut k_loops k_wideKeys k_vars k_results k_ifacesOut k_loopsOut k_plain2 k_plain k_short fact_stopsHeard fact_mayEnter k_lift2 k_lift k_make2 k_kinds k_pins k_veiled k_fits
theorem over : Rows.columnBoundsRow.holds Try.pinned (OpenSpec.ofChange Rows.columnBoundsSpec) :=
  OpenClaim.holds_of_wide 22 Try.f22 rfl rfl rfl rfl rfl rfl rfl ⟨rfl, rfl, rfl, rfl, rfl⟩ rfl rfl rfl rfl rfl k_func Try.func22 closed
    (of_decide_eq_true (by kernel_rfl)) (by unfold Func.isWrapper; first | (rw [if_pos (by decide +kernel)]; kernel_rfl) | (rw [if_neg (by decide +kernel)]; exact ⟨rfl, rfl⟩))
    (fun os started H enc _ => lifted os started H enc)
theorem proved : Rows.ColumnBoundsSaid := over
#print axioms proved
end Go.Proofs.Ytlmcefhpnfoahaa.columnBounds
namespace Go.Proofs.Ytlmcefhpnfoahaa
/-- The row, under a short name, for the claim. -/
theorem columnBounds_holds : Rows.ColumnBoundsSaid := columnBounds.proved
end Go.Proofs.Ytlmcefhpnfoahaa
end
