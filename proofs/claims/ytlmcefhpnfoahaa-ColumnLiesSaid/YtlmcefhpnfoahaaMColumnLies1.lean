/- Part 1 of the proof of the law ColumnLies: texts of this session, gathered. Condition: none beside those that each theorem states. -/
import Derived.Test.YtlmcefhpnfoahaaMColumnLies0
section
namespace Go.Proofs.Ytlmcefhpnfoahaa.P
open Go.RowKit Go.Proofs.YtlmcefhpnfoahaaW.PrintWords Go.Proofs.YtlmcefhpnfoahaaW.PrintLast Go.Proofs.YtlmcefhpnfoahaaW.PrintMore
attribute [local go_sem] max2_int min2_int max_two min_two max_three min_three max_four min_four   -- for this text's walks alone
set_option linter.unusedVariables false
set_option linter.unusedSimpArgs false

theorem noText_list : (ByteArray.mk #[]).toList = [] := by decide +kernel
theorem noText_list' : ByteArray.empty.toList = [] := by decide +kernel
attribute [local go_sem high] eqA39
attribute [local go_sem] noText_list noText_list'
mutual
def tidelinelaw06_ColumnLies.j0 : Nat → List (S39) → Int → Bool → Option (Bool)
  | 0, _, _, _ => none
  | k + 1, x1, x2, x23 => if x23 = true then (some true) else ((column_Bounds.f k x1).bind fun bt1250 => (tidelinelaw06_ColumnLies.l0 k x1 x2 false false 0 0 bt1250.1 bt1250.2.1 bt1250.2.2.1 bt1250.2.2.2.1 bt1250.2.2.2.2.1 bt1250.2.2.2.2.2))
def tidelinelaw06_ColumnLies.l0 : Nat → List (S39) → Int → Bool → Bool → Int → Int → Int → Int → ByteArray → Int → Int → ByteArray → Option (Bool)
  | 0, _, _, _, _, _, _, _, _, _, _, _, _ => none
  | k + 1, x1, x2, x9, x10, x11, x12, x1257000, x1257001, x1257002, x1258000, x1258001, x1258002 => if x12 < (x1.length : Int) then (if 0 ≤ x12 then (if ((rd_T39 x1 x12).f0) = 0 then (tidelinelaw06_ColumnLies.l0 k x1 x2 x9 x10 x11 (wrap64 (x12 + 1)) x1257000 x1257001 x1257002 x1258000 x1258001 x1258002) else (if x9 = true then (tidelinelaw06_ColumnLies.j2 k x1 x2 true x10 (wrap64 (x11 + 1)) x12 x1257000 x1257001 x1257002 x1258000 x1258001 x1258002) else (tidelinelaw06_ColumnLies.j2 k x1 x2 (((rd_T39 x1 x12).f0) == x1257000 && (((rd_T39 x1 x12).f1) == x1257001 && ((((rd_T39 x1 x12).f2).toList) == x1257002.toList))) x10 (wrap64 (x11 + 1)) x12 x1257000 x1257001 x1257002 x1258000 x1258001 x1258002))) else (none)) else (if x11 = 0 then (if (x1257000 == 0 && (x1257001 == 0 && (x1257002.toList == ([] : List UInt8)))) = true then (if (x1258000 == 0 && (x1258001 == 0 && (x1258002.toList == ([] : List UInt8)))) = true then ((tidelinelaw06_puts.f).bind fun t1265 => (some t1265)) else (some false)) else (some false)) else (if (wrap64 ((x1.length : Int) + 1)) = 0 then (none) else (if (Int.tmod x2 (wrap64 ((x1.length : Int) + 1))) < 0 then (tidelinelaw06_ColumnLies.j4 k x1 x9 x10 (wrap64 ((wrap64 ((Int.tmod x2 (wrap64 ((x1.length : Int) + 1))) + (x1.length : Int))) + 1)) x1257000 x1257001 x1257002 x1258000 x1258001 x1258002) else (tidelinelaw06_ColumnLies.j4 k x1 x9 x10 (Int.tmod x2 (wrap64 ((x1.length : Int) + 1))) x1257000 x1257001 x1257002 x1258000 x1258001 x1258002))))
def tidelinelaw06_ColumnLies.j2 : Nat → List (S39) → Int → Bool → Bool → Int → Int → Int → Int → ByteArray → Int → Int → ByteArray → Option (Bool)
  | 0, _, _, _, _, _, _, _, _, _, _, _, _ => none
  | k + 1, x1, x2, x9, x10, x11, x12, x1257000, x1257001, x1257002, x1258000, x1258001, x1258002 => if x10 = true then (tidelinelaw06_ColumnLies.j3 k x1 x2 x9 true x11 x12 x1257000 x1257001 x1257002 x1258000 x1258001 x1258002) else (if 0 ≤ x12 then (if x12 < (x1.length : Int) then (tidelinelaw06_ColumnLies.j3 k x1 x2 x9 (((rd_T39 x1 x12).f0) == x1258000 && (((rd_T39 x1 x12).f1) == x1258001 && ((((rd_T39 x1 x12).f2).toList) == x1258002.toList))) x11 x12 x1257000 x1257001 x1257002 x1258000 x1258001 x1258002) else (none)) else (none))
def tidelinelaw06_ColumnLies.j3 : Nat → List (S39) → Int → Bool → Bool → Int → Int → Int → Int → ByteArray → Int → Int → ByteArray → Option (Bool)
  | 0, _, _, _, _, _, _, _, _, _, _, _, _ => none
  | k + 1, x1, x2, x9, x10, x11, x12, x1257000, x1257001, x1257002, x1258000, x1258001, x1258002 => if 0 ≤ x12 then (if x12 < (x1.length : Int) then ((tidelineref03_Less.f ((rd_T39 x1 x12).f0) ((rd_T39 x1 x12).f1) ((rd_T39 x1 x12).f2) x1257000 x1257001 x1257002).bind fun t1262 => (if t1262 = true then (some false) else ((tidelineref03_Less.f x1258000 x1258001 x1258002 ((rd_T39 x1 x12).f0) ((rd_T39 x1 x12).f1) ((rd_T39 x1 x12).f2)).bind fun t1264 => (if t1264 = true then (some false) else (tidelinelaw06_ColumnLies.l0 k x1 x2 x9 x10 x11 (wrap64 (x12 + 1)) x1257000 x1257001 x1257002 x1258000 x1258001 x1258002))))) else (none)) else (none)
def tidelinelaw06_ColumnLies.j4 : Nat → List (S39) → Bool → Bool → Int → Int → Int → ByteArray → Int → Int → ByteArray → Option (Bool)
  | 0, _, _, _, _, _, _, _, _, _, _ => none
  | k + 1, x1, x9, x10, x13, x1257000, x1257001, x1257002, x1258000, x1258001, x1258002 => if 0 ≤ x13 then (if x13 ≤ (x1.length : Int) then ((column_Bounds.f k (x1.take (x13 : Int).toNat)).bind fun bt1270 => (if x9 = true then (if x10 = true then (if bt1270.1 = 0 then ((tidelinelaw06_puts.f).bind fun t1278 => (some t1278)) else ((tidelineref03_Less.f bt1270.1 bt1270.2.1 bt1270.2.2.1 x1257000 x1257001 x1257002).bind fun t1279 => (if t1279 = true then (some false) else ((tidelineref03_Less.f x1258000 x1258001 x1258002 bt1270.2.2.2.1 bt1270.2.2.2.2.1 bt1270.2.2.2.2.2).bind fun t1280 => (if t1280 = true then (some false) else ((tidelinelaw06_puts.f).bind fun t1281 => (some t1281))))))) else (some false)) else (some false))) else (none)) else (none)
end
def tidelinelaw06_ColumnLies.f (k : Nat) (a0 : Int) (l1 : List (S39)) (a2 : Int) : Option (Bool) := (tidelinelaw06_long.f k l1).bind fun t1248 => (if t1248 = true then (tidelinelaw06_ColumnLies.j0 k l1 a2 true) else ((tidelineref06_Column.f k a0 l1).bind fun t1249 => (tidelinelaw06_ColumnLies.j0 k l1 a2 (!t1249))))
def tidelinelaw06_ColumnLies.T10 : Bool × List (List Nat × List Nat) := (true, [([], []), ([0], [0]), ([1], [1]), ([1], [1]), ([2, 3, 1], [1, 2, 3]), ([4, 1], [1, 4]), ([1], [1]), ([5, 6, 1], [1, 5, 6]), ([1, 7], [1, 7]), ([8, 1, 0, 1, 2, 3, 4, 5, 6, 7, 8], [0, 8])])
def tidelinelaw06_ColumnLies.B10 : List Nat := [0, 1, 3, 3, 15, 31, 3, 127, 255, 511]
theorem tidelinelaw06_ColumnLies.tab10 : rtab .any (opsOf Try.f23 10) = tidelinelaw06_ColumnLies.T10 := by kernel_rfl
theorem tidelinelaw06_ColumnLies.bits10 : waitsOk tidelinelaw06_ColumnLies.T10.2 tidelinelaw06_ColumnLies.B10 = true := by kernel_rfl
def tidelinelaw06_ColumnLies.T11 : Bool × List (List Nat × List Nat) := (true, [([], []), ([0], [0]), ([1], [1]), ([1], [1]), ([2, 3, 1], [1, 2, 3]), ([4, 1], [1, 4]), ([1], [1]), ([5, 6, 1], [1, 5, 6]), ([1, 7], [1, 7]), ([8, 1, 0, 1, 2, 3, 4, 5, 6, 7, 8], [0, 8])])
def tidelinelaw06_ColumnLies.B11 : List Nat := [0, 1, 3, 3, 15, 31, 3, 127, 255, 511]
theorem tidelinelaw06_ColumnLies.tab11 : rtab .any (opsOf Try.f23 11) = tidelinelaw06_ColumnLies.T11 := by kernel_rfl
theorem tidelinelaw06_ColumnLies.bits11 : waitsOk tidelinelaw06_ColumnLies.T11.2 tidelinelaw06_ColumnLies.B11 = true := by kernel_rfl
def tidelinelaw06_ColumnLies.T12 : Bool × List (List Nat × List Nat) := (true, [([], []), ([], []), ([0, 1], [0, 1]), ([2], [2]), ([], []), ([3, 4], [3, 4]), ([5, 5], [5]), ([6], [6]), ([6], [6]), ([6], [6]), ([8, 9, 6], [6, 8, 9]), ([10, 6], [6, 10]), ([7, 11, 6, 6], [6, 7, 11]), ([6, 12], [6, 12])])
def tidelinelaw06_ColumnLies.B12 : List Nat := [0, 0, 3, 7, 0, 31, 63, 127, 127, 127, 895, 1919, 4095, 8191]
theorem tidelinelaw06_ColumnLies.tab12 : rtab .any (opsOf Try.f23 12) = tidelinelaw06_ColumnLies.T12 := by kernel_rfl
theorem tidelinelaw06_ColumnLies.bits12 : waitsOk tidelinelaw06_ColumnLies.T12.2 tidelinelaw06_ColumnLies.B12 = true := by kernel_rfl
set_option maxHeartbeats 8000000 in
set_option maxRecDepth 100000 in
theorem tidelinelaw06_ColumnLies.calls (k : Nat) (a0 : Int) (A1 : Option Addr) (c1 : Nat) (l1 : List (S39)) (a2 : Int) (r : Bool) (w : World) (hr1 : Kd.C k39 w A1 l1.length l1) (hc1 : l1.length ≤ c1) (h : tidelinelaw06_ColumnLies.f k a0 l1 a2 = some r) :
    Calls Try.prog 23 #[.int .u8 a0, .slice A1 l1.length c1, .int .i64 a2] w fun e w' => e = .returned (.bool r) ∧ Below w.heap.size w w' := by
  have hu39 := Try.underlying39
  have HR1 := Aside0.mk hr1
  have HC1 := Aside0.mk hc1
  clear hr1 hc1
  have HB := Aside0.mk (Below.refl w.heap.size w)
  have H : ((tidelinelaw06_long.f k l1).bind fun t1248 => (if t1248 = true then (tidelinelaw06_ColumnLies.j0 k l1 a2 true) else ((tidelineref06_Column.f k a0 l1).bind fun t1249 => (tidelinelaw06_ColumnLies.j0 k l1 a2 (!t1249))))) = some r := h
  clear h
  have HC4 := Aside0.mk H
  clear H
  go_enter Try.func23, Try.ntmps23
  go_upto_region 1 with (fail)
  go_cut [23] (fun v23 wc => ∃ (kq : Nat) (x23_3 : Bool), v23 = .bool x23_3 ∧ Aside0 (tidelinelaw06_ColumnLies.j0 kq l1 a2 x23_3 = some r) ∧ Aside0 (kq ≤ k) ∧ Aside0 (Below w.heap.size w wc))
  case first =>
    have H := HC4.out
    clear HC4
    replace H := Option.bind_eq_some_iff.mp H
    obtain ⟨t1248, A50, H⟩ := H
    replace H : (if t1248 = true then (tidelinelaw06_ColumnLies.j0 k l1 a2 true) else ((tidelineref06_Column.f k a0 l1).bind fun t1249 => (tidelinelaw06_ColumnLies.j0 k l1 a2 (!t1249)))) = some r := H
    have A5 := Aside0.mk A50
    clear A50
    by_cases c6 : t1248 = true
    · subst c6
      have H1 : (tidelinelaw06_ColumnLies.j0 k l1 a2 true) = some r := by rw [if_pos rfl] at H; exact H
      clear H
      have H := H1
      clear H1
      have H' := Aside0.mk H
      clear H
      go_wp2_with (first | ((with_reducible refine gate_callee (f := 54) rfl ?_); refine goesL_ (some 17) rfl rfl Try.func54 (by kernel_rfl) rfl #[.slice A1 l1.length c1] rfl (by (try simp only [List.map_toArray, List.map_cons, List.map_nil]); first | done | rfl | (simp only [List.length_drop, List.length_take]; rfl)) ?_; (with_reducible refine (tidelinelaw06_long.calls k _ _ l1 true _ ?side1 ?side2 A5.out).mono ?_); (case side1 => repeat (first | exact (Kd.C_below HR1.out HB.out) | (with_reducible refine Kd.C_alloc ?_ _) | (with_reducible refine Kd.C_drewN ?_ _) | (with_reducible refine Kd.C_drew ?_))); (case side2 => exact HC1.out); rintro e w' ⟨rfl, ⟨nd, rfl⟩⟩; refine ⟨_, rfl, ?_⟩))
      go_meet
      case rel => exact ⟨_, (true), (by first | rfl | (simp; done) | (simp [*]; done)), H', ⟨by first | omega | exact Nat.le_refl _⟩, ⟨by repeat (first | (with_reducible first | exact HB.out | apply below_alloc | apply pw_below_drewN | apply below_drew1) | exact HB.out)⟩⟩
    · replace c6 := Bool.eq_false_iff.mpr c6
      subst c6
      have H1 : ((tidelineref06_Column.f k a0 l1).bind fun t1249 => (tidelinelaw06_ColumnLies.j0 k l1 a2 (!t1249))) = some r := by rw [if_neg (show ¬ (false = true) by decide)] at H; exact H
      clear H
      have H := H1
      clear H1
      replace H := Option.bind_eq_some_iff.mp H
      obtain ⟨t1249, A70, H⟩ := H
      replace H : (tidelinelaw06_ColumnLies.j0 k l1 a2 (!t1249)) = some r := H
      have A7 := Aside0.mk A70
      clear A70
      have H' := Aside0.mk H
      clear H
      go_wp2_with (first | ((with_reducible refine gate_callee (f := 54) rfl ?_); refine goesL_ (some 17) rfl rfl Try.func54 (by kernel_rfl) rfl #[.slice A1 l1.length c1] rfl (by (try simp only [List.map_toArray, List.map_cons, List.map_nil]); first | done | rfl | (simp only [List.length_drop, List.length_take]; rfl)) ?_; (with_reducible refine (tidelinelaw06_long.calls k _ _ l1 false _ ?side1 ?side2 A5.out).mono ?_); (case side1 => repeat (first | exact (Kd.C_below HR1.out HB.out) | (with_reducible refine Kd.C_alloc ?_ _) | (with_reducible refine Kd.C_drewN ?_ _) | (with_reducible refine Kd.C_drew ?_))); (case side2 => exact HC1.out); rintro e w' ⟨rfl, ⟨nd, rfl⟩⟩; refine ⟨_, rfl, ?_⟩) | (go_at_call 60; (with_reducible refine (tidelineref06_Column.calls k a0 _ _ l1 t1249 _ ?side1 ?side2 A7.out).mono ?_); (case side1 => repeat (first | exact (Kd.C_below HR1.out (by repeat (first | (with_reducible first | exact HB.out | apply below_alloc | apply pw_below_drewN | apply below_drew1) | exact HB.out))) | (with_reducible refine Kd.C_alloc ?_ _) | (with_reducible refine Kd.C_drewN ?_ _) | (with_reducible refine Kd.C_drew ?_))); (case side2 => exact HC1.out); rintro e w8 ⟨rfl, hb⟩; have n0_ := Aside0.mk (below_step (by repeat (first | (with_reducible first | exact HB.out | apply below_alloc | apply pw_below_drewN | apply below_drew1) | exact HB.out)) hb); clear HB; have HB := n0_; clear n0_; (try clear hb); (try clear hb2); (try clear hk); (try clear hi)))
      go_meet
      case rel => exact ⟨_, (!t1249), (by first | rfl | (simp; done) | (simp [*]; done)), H', ⟨by first | omega | exact Nat.le_refl _⟩, ⟨by repeat (first | (with_reducible first | exact HB.out | apply below_alloc | apply pw_below_drewN | apply below_drew1) | exact HB.out)⟩⟩
  case rest =>
    clear HC4
    try clear c1
    try clear c2
    try clear p2
    try clear c5
    try clear c6
    obtain ⟨kq, x23_3, rfl, HA, HJ3, HB⟩ := hcut
    cases kq with
    | zero => exact absurd HA.out (by simp [tidelinelaw06_ColumnLies.j0])
    | succ kj3 =>
      have H := HA.out
      clear HA
      simp only [tidelinelaw06_ColumnLies.j0] at H
      by_cases c9 : x23_3 = true
      · subst c9
        have H1 : (some true) = some r := by rw [if_pos rfl] at H; exact H
        clear H
        have H := H1
        clear H1
        obtain rfl := Option.some.inj H
        go_wp2
        go_ret
        exact ⟨by first | rfl | (simp [errW_none, errW_some] <;> rfl) | (simp [*, errW_none, errW_some] <;> rfl), by repeat (first | (with_reducible first | exact HB.out | apply below_alloc | apply pw_below_drewN | apply below_drew1) | exact HB.out)⟩
      · replace c9 := Bool.eq_false_iff.mpr c9
        subst c9
        have H1 : ((column_Bounds.f kj3 l1).bind fun bt1250 => (tidelinelaw06_ColumnLies.l0 kj3 l1 a2 false false 0 0 bt1250.1 bt1250.2.1 bt1250.2.2.1 bt1250.2.2.2.1 bt1250.2.2.2.2.1 bt1250.2.2.2.2.2)) = some r := by rw [if_neg (show ¬ (false = true) by decide)] at H; exact H
        clear H
        have H := H1
        clear H1
        replace H := Option.bind_eq_some_iff.mp H
        obtain ⟨⟨t1250, t1251, t1252, t1253, t1254, t1255⟩, A100, H⟩ := H
        replace H : (tidelinelaw06_ColumnLies.l0 kj3 l1 a2 false false 0 0 t1250 t1251 t1252 t1253 t1254 t1255) = some r := H
        have A10 := Aside0.mk A100
        clear A100
        have H' := Aside0.mk H
        clear H
        go_wp2_with (first | ((with_reducible refine gate_callee (f := 62) rfl ?_); refine goesL_ (some 26) rfl rfl Try.func62 (by kernel_rfl) rfl #[.slice A1 l1.length c1] rfl (by (try simp only [List.map_toArray, List.map_cons, List.map_nil]); first | done | rfl | (simp only [List.length_drop, List.length_take]; rfl)) ?_; (with_reducible refine (column_Bounds.calls kj3 _ _ l1 t1250 t1251 t1252 t1253 t1254 t1255 _ ?side1 ?side2 A10.out).mono ?_); (case side1 => repeat (first | exact (Kd.C_below HR1.out HB.out) | (with_reducible refine Kd.C_alloc ?_ _) | (with_reducible refine Kd.C_drewN ?_ _) | (with_reducible refine Kd.C_drew ?_))); (case side2 => exact HC1.out); rintro e w11 ⟨rfl, hb⟩; refine ⟨_, rfl, ?_⟩; have n0_ := Aside0.mk (below_step (by repeat (first | (with_reducible first | exact HB.out | apply below_alloc | apply pw_below_drewN | apply below_drew1) | exact HB.out)) hb); clear HB; have HB := n0_; clear n0_; (try clear hb); (try clear hb2); (try clear hk); (try clear hi)) | ((with_reducible refine gate_dst (N := 7) rfl ?_); refine box_event ?hg (N := 7) ?hd (cs := #[.int .u8 0, .int .i64 0, .string (⟨#[]⟩ : ByteArray)]) (t := 39) ?hr ?_; (case hd => rfl); (case hg => rfl); (case hr => first | (go_simp; done) | (go_simp; rfl)); intro gb1256 hg w12 hbox hb; have n0_ := Aside0.mk (below_step (by repeat (first | (with_reducible first | exact HB.out | apply below_alloc | apply pw_below_drewN | apply below_drew1) | exact HB.out)) hb); have n1_ := Aside0.mk (hbox); have n2_ := Aside0.mk ((by rw [hg]; exact (below_size (by repeat (first | (with_reducible first | exact HB.out | apply below_alloc | apply pw_below_drewN | apply below_drew1) | exact HB.out))) : w.heap.size ≤ gb1256)); have n3_ := Aside0.mk ((by rw [hg]; exact (below_size (by repeat (first | (with_reducible first | exact HB.out | apply below_alloc | apply pw_below_drewN | apply below_drew1) | exact HB.out))) : w.heap.size ≤ gb1256)); clear HB; have HB := n0_; have BK1256 := n1_; have GW1256 := n2_; have GE1256 := n3_; clear n0_ n1_ n2_ n3_; clear hb hbox hg) | ((with_reducible refine gate_dst (N := 8) rfl ?_); refine box_event ?hg (N := 8) ?hd (cs := #[.int .u8 0, .int .i64 0, .string (⟨#[]⟩ : ByteArray)]) (t := 39) ?hr ?_; (case hd => rfl); (case hg => rfl); (case hr => first | (go_simp; done) | (go_simp; rfl)); intro gb1257 hg w13 hbox hb; have n0_ := Aside0.mk (blk_below (g := gb1256) (o := .cells #[.int .u8 0, .int .i64 0, .string (⟨#[]⟩ : ByteArray)] 39 (0, 0)) (by (with_reducible repeat (first | refine blk_drewN ?_ _ | refine blk_drew ?_ | refine blk_alloc ?_ _)); exact BK1256.out) hb); have n1_ := Aside0.mk (below_step (by repeat (first | (with_reducible first | exact HB.out | apply below_alloc | apply pw_below_drewN | apply below_drew1 | refine below_set ?_ GE1256.out) | exact HB.out)) hb); have n2_ := Aside0.mk (hbox); have n3_ := Aside0.mk ((by rw [hg]; exact (below_size (by repeat (first | (with_reducible first | exact HB.out | apply below_alloc | apply pw_below_drewN | apply below_drew1 | refine below_set ?_ GE1256.out) | exact HB.out))) : w.heap.size ≤ gb1257)); have n4_ := Aside0.mk ((by rw [hg]; exact (below_size (by repeat (first | (with_reducible first | exact HB.out | apply below_alloc | apply pw_below_drewN | apply below_drew1 | refine below_set ?_ GE1256.out) | exact HB.out))) : w.heap.size ≤ gb1257)); have n5_ := Aside0.mk ((by rw [hg]; exact Nat.ne_of_lt (blk_lt (g := gb1256) (o := .cells #[.int .u8 0, .int .i64 0, .string (⟨#[]⟩ : ByteArray)] 39 (0, 0)) (by (with_reducible repeat (first | refine blk_drewN ?_ _ | refine blk_drew ?_ | refine blk_alloc ?_ _)); exact BK1256.out)) : gb1256 ≠ gb1257)); have n6_ := Aside0.mk ((by rw [hg]; exact Nat.ne_of_gt (blk_lt (g := gb1256) (o := .cells #[.int .u8 0, .int .i64 0, .string (⟨#[]⟩ : ByteArray)] 39 (0, 0)) (by (with_reducible repeat (first | refine blk_drewN ?_ _ | refine blk_drew ?_ | refine blk_alloc ?_ _)); exact BK1256.out)) : gb1257 ≠ gb1256)); clear BK1256; clear HB; have BK1256 := n0_; have HB := n1_; have BK1257 := n2_; have GW1257 := n3_; have GE1257 := n4_; have NB1256_1257 := n5_; have NB1257_1256 := n6_; clear n0_ n1_ n2_ n3_ n4_ n5_ n6_; clear hb hbox hg; have hnb14 := NB1256_1257.out; have hnc14 := NB1257_1256.out; have hcz15_0 : w13.cell? ⟨gb1256, 0, none⟩ = some (.int .u8 0) := (blk_cell BK1256.out 0).trans rfl; have hcz15_1 : w13.cell? ⟨gb1256, 1, none⟩ = some (.int .i64 0) := (blk_cell BK1256.out 1).trans rfl; have hcz15_2 : w13.cell? ⟨gb1256, 2, none⟩ = some (.string (⟨#[]⟩ : ByteArray)) := (blk_cell BK1256.out 2).trans rfl; have hfz15_0 := blk_frozen BK1256.out 0; have hfz15_1 := blk_frozen BK1256.out 1; have hfz15_2 := blk_frozen BK1256.out 2; have hcz16_0 : w13.cell? ⟨gb1257, 0, none⟩ = some (.int .u8 0) := (blk_cell BK1257.out 0).trans rfl; have hcz16_1 : w13.cell? ⟨gb1257, 1, none⟩ = some (.int .i64 0) := (blk_cell BK1257.out 1).trans rfl; have hcz16_2 : w13.cell? ⟨gb1257, 2, none⟩ = some (.string (⟨#[]⟩ : ByteArray)) := (blk_cell BK1257.out 2).trans rfl; have hfz16_0 := blk_frozen BK1257.out 0; have hfz16_1 := blk_frozen BK1257.out 1; have hfz16_2 := blk_frozen BK1257.out 2))
        go_loopg [9, 10, 11, 12] kj3 (fun kq v9 v10 v11 v12 w' => ∃ (x9_2 : Bool) (x10_2 : Bool) (x11_2 : Int) (x12_2 : Int), v9 = .bool x9_2 ∧ v10 = .bool x10_2 ∧ v11 = .int .i64 x11_2 ∧ v12 = .int .i64 x12_2 ∧ Aside0 (tidelinelaw06_ColumnLies.l0 kq l1 a2 x9_2 x10_2 x11_2 x12_2 t1250 t1251 t1252 t1253 t1254 t1255 = some r) ∧ Aside0 (kq ≤ kj3) ∧ Aside0 (w'.heap[gb1256]? = some (.cells #[.int .u8 t1250, .int .i64 t1251, .string t1252] 39 (0, 0))) ∧ Aside0 (w'.heap[gb1257]? = some (.cells #[.int .u8 t1253, .int .i64 t1254, .string t1255] 39 (0, 0))) ∧ Aside0 (Below w.heap.size w w'))
        case atStart => exact ⟨(false), (false), (0), (0), (by first | rfl | (simp; done) | (simp [*]; done)), (by first | rfl | (simp; done) | (simp [*]; done)), (by first | rfl | (simp; done) | (simp [*]; done)), (by first | rfl | (simp; done) | (simp [*]; done)), H', ⟨Nat.le_refl _⟩, ⟨by (with_reducible repeat (first | refine blk_drewN ?_ _ | refine blk_drew ?_ | refine blk_alloc ?_ _)); refine blk_far ?_ NB1256_1257.out _; (with_reducible repeat (first | refine blk_drewN ?_ _ | refine blk_drew ?_ | refine blk_alloc ?_ _)); refine blk_far ?_ NB1256_1257.out _; (with_reducible repeat (first | refine blk_drewN ?_ _ | refine blk_drew ?_ | refine blk_alloc ?_ _)); refine blk_far ?_ NB1256_1257.out _; (with_reducible repeat (first | refine blk_drewN ?_ _ | refine blk_drew ?_ | refine blk_alloc ?_ _)); refine blk_put (cs := #[.int .u8 t1250, .int .i64 t1251, .string (⟨#[]⟩ : ByteArray)]) ?_ 2 _ rfl; (with_reducible repeat (first | refine blk_drewN ?_ _ | refine blk_drew ?_ | refine blk_alloc ?_ _)); refine blk_put (cs := #[.int .u8 t1250, .int .i64 0, .string (⟨#[]⟩ : ByteArray)]) ?_ 1 _ rfl; (with_reducible repeat (first | refine blk_drewN ?_ _ | refine blk_drew ?_ | refine blk_alloc ?_ _)); refine blk_put (cs := #[.int .u8 0, .int .i64 0, .string (⟨#[]⟩ : ByteArray)]) ?_ 0 _ rfl; (with_reducible repeat (first | refine blk_drewN ?_ _ | refine blk_drew ?_ | refine blk_alloc ?_ _)); exact BK1256.out⟩, ⟨by (with_reducible repeat (first | refine blk_drewN ?_ _ | refine blk_drew ?_ | refine blk_alloc ?_ _)); refine blk_put (cs := #[.int .u8 t1253, .int .i64 t1254, .string (⟨#[]⟩ : ByteArray)]) ?_ 2 _ rfl; (with_reducible repeat (first | refine blk_drewN ?_ _ | refine blk_drew ?_ | refine blk_alloc ?_ _)); refine blk_put (cs := #[.int .u8 t1253, .int .i64 0, .string (⟨#[]⟩ : ByteArray)]) ?_ 1 _ rfl; (with_reducible repeat (first | refine blk_drewN ?_ _ | refine blk_drew ?_ | refine blk_alloc ?_ _)); refine blk_put (cs := #[.int .u8 0, .int .i64 0, .string (⟨#[]⟩ : ByteArray)]) ?_ 0 _ rfl; (with_reducible repeat (first | refine blk_drewN ?_ _ | refine blk_drew ?_ | refine blk_alloc ?_ _)); refine blk_far ?_ NB1257_1256.out _; (with_reducible repeat (first | refine blk_drewN ?_ _ | refine blk_drew ?_ | refine blk_alloc ?_ _)); refine blk_far ?_ NB1257_1256.out _; (with_reducible repeat (first | refine blk_drewN ?_ _ | refine blk_drew ?_ | refine blk_alloc ?_ _)); refine blk_far ?_ NB1257_1256.out _; (with_reducible repeat (first | refine blk_drewN ?_ _ | refine blk_drew ?_ | refine blk_alloc ?_ _)); exact BK1257.out⟩, ⟨by repeat (first | (with_reducible first | exact HB.out | apply below_alloc | apply pw_below_drewN | apply below_drew1 | refine below_set ?_ GE1256.out | refine below_set ?_ GE1257.out) | exact HB.out)⟩⟩
        case round =>
          clear H'
          try clear c1
          try clear c2
          try clear p2
          try clear c5
          try clear c6
          try clear c9
          try clear c14
          try clear hcz15_0
          try clear hcz15_1
          try clear hcz15_2
          try clear hcz16_0
          try clear hcz16_1
          try clear hcz16_2
          try clear hfz15_0
          try clear hfz15_1
          try clear hfz15_2
          try clear hfz16_0
          try clear hfz16_1
          try clear hfz16_2
          try clear p2
          obtain ⟨x9_2, x10_2, x11_2, x12_2, rfl, rfl, rfl, rfl, HA, HK2, BK1256, BK1257, HB⟩ := hrel
          cases gk with
          | zero => exact absurd HA.out (by simp [tidelinelaw06_ColumnLies.l0])
          | succ k2 =>
            have H := HA.out
            clear HA
            simp only [tidelinelaw06_ColumnLies.l0] at H
            by_cases c17 : x12_2 < (l1.length : Int)
            · rw [if_pos c17] at H
              have c17b0 : decide (x12_2 < (l1.length : Int)) = true := decide_eq_true c17
              clear c17
              by_cases c18 : 0 ≤ x12_2
              · rw [if_pos c18] at H
                have c18b0 : decide (0 ≤ x12_2) = true := decide_eq_true c18
                clear c18
                by_cases c19 : ((rd_T39 l1 x12_2).f0) = 0
                · rw [if_pos c19] at H
                  have c19b0 : (((rd_T39 l1 x12_2).f0) == 0) = true := beq_iff_eq.mpr c19
                  have c19b1 : (((rd_T39 l1 x12_2).f0) != 0) = false := bne_eq_false_iff_eq.mpr c19
                  clear c19
                  have H' := Aside0.mk H
                  clear H
                  have p1258 : 0 ≤ (x12_2 : Int) := of_decide_eq_true (by first | (with_reducible assumption) | assumption)
                  have q1258 : x12_2 < (l1.length : Int) := of_decide_eq_true (by first | (with_reducible assumption) | assumption)
                  obtain ⟨ad1258, e1258, hx1258_0, hx1258_1, hx1258_2⟩ := at_T39 HR1.out x12_2 p1258 q1258
                  cases e1258
                  replace hx1258_0 := (HB.out.cell (World.block_lt_of_cell? w _ hx1258_0)).trans hx1258_0
                  replace hx1258_1 := (HB.out.cell (World.block_lt_of_cell? w _ hx1258_1)).trans hx1258_1
                  replace hx1258_2 := (HB.out.cell (World.block_lt_of_cell? w _ hx1258_2)).trans hx1258_2
                  replace p1258 := eq_true p1258
                  replace q1258 := eq_true q1258
                  go_wp2
                  go_roundg k2
                  case measure => have := HJ3.out; have := HK2.out; omega
                  case rel => exact ⟨(x9_2), (x10_2), (x11_2), (wrap64 (x12_2 + 1)), (by first | rfl | (simp; done) | (simp [*]; done)), (by first | rfl | (simp; done) | (simp [*]; done)), (by first | rfl | (simp; done) | (simp [*]; done)), (by first | rfl | (simp; done) | (simp [*]; done)), H', ⟨by have := HJ3.out; have := HK2.out; omega⟩, ⟨by (with_reducible repeat (first | refine blk_drewN ?_ _ | refine blk_drew ?_ | refine blk_alloc ?_ _)); exact BK1256.out⟩, ⟨by (with_reducible repeat (first | refine blk_drewN ?_ _ | refine blk_drew ?_ | refine blk_alloc ?_ _)); exact BK1257.out⟩, ⟨by repeat (first | (with_reducible first | exact HB.out | apply below_alloc | apply pw_below_drewN | apply below_drew1 | refine below_set ?_ GE1256.out | refine below_set ?_ GE1257.out) | exact HB.out)⟩⟩
                · rw [if_neg c19] at H
                  have c19b0 : (((rd_T39 l1 x12_2).f0) == 0) = false := beq_eq_false_iff_ne.mpr c19
                  have c19b1 : (((rd_T39 l1 x12_2).f0) != 0) = true := bne_iff_ne.mpr c19
                  have HC20 := Aside0.mk H
                  clear H
                  have p1258 : 0 ≤ (x12_2 : Int) := of_decide_eq_true (by first | (with_reducible assumption) | assumption)
                  have q1258 : x12_2 < (l1.length : Int) := of_decide_eq_true (by first | (with_reducible assumption) | assumption)
                  obtain ⟨ad1258, e1258, hx1258_0, hx1258_1, hx1258_2⟩ := at_T39 HR1.out x12_2 p1258 q1258
                  cases e1258
                  replace hx1258_0 := (HB.out.cell (World.block_lt_of_cell? w _ hx1258_0)).trans hx1258_0
                  replace hx1258_1 := (HB.out.cell (World.block_lt_of_cell? w _ hx1258_1)).trans hx1258_1
                  replace hx1258_2 := (HB.out.cell (World.block_lt_of_cell? w _ hx1258_2)).trans hx1258_2
                  replace p1258 := eq_true p1258
                  replace q1258 := eq_true q1258
                  go_upto_region 10 with (fail)
                  go_cut [9] (fun v9 wc => ∃ (kq : Nat) (x9_19 : Bool), v9 = .bool x9_19 ∧ Aside0 (tidelinelaw06_ColumnLies.j2 kq l1 a2 x9_19 x10_2 (wrap64 (x11_2 + 1)) x12_2 t1250 t1251 t1252 t1253 t1254 t1255 = some r) ∧ Aside0 (kq ≤ k2) ∧ Aside0 (wc.heap[gb1256]? = some (.cells #[.int .u8 t1250, .int .i64 t1251, .string t1252] 39 (0, 0))) ∧ Aside0 (wc.heap[gb1257]? = some (.cells #[.int .u8 t1253, .int .i64 t1254, .string t1255] 39 (0, 0))) ∧ Aside0 (Below w.heap.size w wc))
                  case first =>
                    have H := HC20.out
                    clear HC20
                    by_cases c21 : x9_2 = true
                    · subst c21
                      have H1 : (tidelinelaw06_ColumnLies.j2 k2 l1 a2 true x10_2 (wrap64 (x11_2 + 1)) x12_2 t1250 t1251 t1252 t1253 t1254 t1255) = some r := by rw [if_pos rfl] at H; exact H
                      clear H
                      have H := H1
                      clear H1
                      have H' := Aside0.mk H
                      clear H
                      try go_wp2
                      have n0_ := Aside0.mk (blk_drew BK1256.out)
                      have n1_ := Aside0.mk (blk_drew BK1257.out)
                      have n2_ := Aside0.mk (below_drew1 HB.out)
                      clear BK1256
                      clear BK1257
                      clear HB
                      have BK1256 := n0_
                      have BK1257 := n1_
                      have HB := n2_
                      clear n0_ n1_ n2_
                      refine start_ (n := 10) (S := fun w' => True) (ds := []) #[false, false, false, false, false, false, false, false, false, false] (by kernel_rfl) rfl rfl trivial (fun hHeld => ?_); refine with_tabW tidelinelaw06_ColumnLies.tab10 tidelinelaw06_ColumnLies.bits10 (fun HT_ HW_ => ?_)
                      generalize wr.drew = w22 at BK1256 BK1257 HB hHeld ⊢
                      refine pure_ (i := 0) (N := some 43) (v := ?_) (a' := ?_) #[true, false, false, false, false, false, false, false, false, false] rfl rfl (any_of HT_.out (by kernel_rfl)) (fun _ _ _ h => h) (Or.inl ⟨by rfl, ?_⟩) ?_ ?_
                      rotate_left
                      · intro w'
                        go_simp
                        with_reducible rfl
                      rotate_left
                      · simp only [Act.put, List.setIfInBounds_toArray, List.set_cons_zero, List.set_cons_succ, i64_w, i32_w]
                        rfl
                      refine pure_ (i := 1) (N := some 44) (v := ?_) (a' := ?_) #[true, true, false, false, false, false, false, false, false, false] rfl rfl (any_of HT_.out (by kernel_rfl)) (fun _ _ _ h => h) (Or.inl ⟨by rfl, ?_⟩) ?_ ?_
                      rotate_left
                      · intro w'
                        go_simp
                        with_reducible rfl
                      rotate_left
                      · simp only [Act.put, List.setIfInBounds_toArray, List.set_cons_zero, List.set_cons_succ, i64_w, i32_w]
                        rfl
                      refine pure_ (i := 2) (N := some 45) (v := undef) (a' := ?_) #[true, true, true, false, false, false, false, false, false, false] rfl rfl (any_of HT_.out (by kernel_rfl)) (fun _ _ _ h => h) (Or.inr ⟨by rfl, rfl⟩) ?_ ?_
                      rotate_left
                      · simp only [Act.put, List.setIfInBounds_toArray, List.set_cons_zero, List.set_cons_succ, i64_w, i32_w]
                        rfl
                      refine pure_ (i := 3) (N := some 46) (v := undef) (a' := ?_) #[true, true, true, true, false, false, false, false, false, false] rfl rfl (any_of HT_.out (by kernel_rfl)) (fun _ _ _ h => h) (Or.inr ⟨by rfl, rfl⟩) ?_ ?_
                      rotate_left
                      · simp only [Act.put, List.setIfInBounds_toArray, List.set_cons_zero, List.set_cons_succ, i64_w, i32_w]
                        rfl
                      refine pure_ (i := 4) (N := some 47) (v := undef) (a' := ?_) #[true, true, true, true, true, false, false, false, false, false] rfl rfl (any_of HT_.out (by kernel_rfl)) (fun _ _ _ h => h) (Or.inr ⟨by rfl, rfl⟩) ?_ ?_
                      rotate_left
                      · simp only [Act.put, List.setIfInBounds_toArray, List.set_cons_zero, List.set_cons_succ, i64_w, i32_w]
                        rfl
                      refine pure_ (i := 5) (N := some 48) (v := undef) (a' := ?_) #[true, true, true, true, true, true, false, false, false, false] rfl rfl (any_of HT_.out (by kernel_rfl)) (fun _ _ _ h => h) (Or.inr ⟨by rfl, rfl⟩) ?_ ?_
                      rotate_left
                      · simp only [Act.put, List.setIfInBounds_toArray, List.set_cons_zero, List.set_cons_succ, i64_w, i32_w]
                        rfl
                      refine pure_ (i := 6) (N := some 49) (v := undef) (a' := ?_) #[true, true, true, true, true, true, true, false, false, false] rfl rfl (any_of HT_.out (by kernel_rfl)) (fun _ _ _ h => h) (Or.inr ⟨by rfl, rfl⟩) ?_ ?_
                      rotate_left
                      · simp only [Act.put, List.setIfInBounds_toArray, List.set_cons_zero, List.set_cons_succ, i64_w, i32_w]
                        rfl
                      refine pure_ (i := 7) (N := some 50) (v := undef) (a' := ?_) #[true, true, true, true, true, true, true, true, false, false] rfl rfl (any_of HT_.out (by kernel_rfl)) (fun _ _ _ h => h) (Or.inr ⟨by rfl, rfl⟩) ?_ ?_
                      rotate_left
                      · simp only [Act.put, List.setIfInBounds_toArray, List.set_cons_zero, List.set_cons_succ, i64_w, i32_w]
                        rfl
                      refine pure_ (i := 8) (N := some 51) (v := ?_) (a' := ?_) #[true, true, true, true, true, true, true, true, true, false] rfl rfl (any_of HT_.out (by kernel_rfl)) (fun _ _ _ h => h) (Or.inl ⟨by rfl, ?_⟩) ?_ ?_
                      rotate_left
                      · intro w'
                        go_simp
                        with_reducible rfl
                      rotate_left
                      · simp only [Act.put, List.setIfInBounds_toArray, List.set_cons_zero, List.set_cons_succ, i64_w, i32_w]
                        rfl
                      refine pure_ (i := 9) (N := some 9) (v := ?_) (a' := ?_) #[true, true, true, true, true, true, true, true, true, true] rfl rfl (any_of HT_.out (by kernel_rfl)) (fun _ _ _ h => h) (Or.inl ⟨by rfl, ?_⟩) ?_ ?_
                      rotate_left
                      · intro w'
                        go_simp
                        with_reducible rfl
                      rotate_left
                      · simp only [Act.put, List.setIfInBounds_toArray, List.set_cons_zero, List.set_cons_succ, i64_w, i32_w]
                        rfl
                      refine done_ (done_of HT_.out (by kernel_rfl)) ?_
                      try go_wp2
                      go_meet
                      case rel => exact ⟨_, (true), (by first | rfl | (simp; done) | (simp [*]; done)), H', ⟨by have := HJ3.out; have := HK2.out; first | omega | exact Nat.le_refl _⟩, ⟨by (with_reducible repeat (first | refine blk_drewN ?_ _ | refine blk_drew ?_ | refine blk_alloc ?_ _)); exact BK1256.out⟩, ⟨by (with_reducible repeat (first | refine blk_drewN ?_ _ | refine blk_drew ?_ | refine blk_alloc ?_ _)); exact BK1257.out⟩, ⟨by repeat (first | (with_reducible first | exact HB.out | apply below_alloc | apply pw_below_drewN | apply below_drew1 | refine below_set ?_ GE1256.out | refine below_set ?_ GE1257.out) | exact HB.out)⟩⟩
                    · replace c21 := Bool.eq_false_iff.mpr c21
                      subst c21
                      have H1 : (tidelinelaw06_ColumnLies.j2 k2 l1 a2 (((rd_T39 l1 x12_2).f0) == t1250 && (((rd_T39 l1 x12_2).f1) == t1251 && ((((rd_T39 l1 x12_2).f2).toList) == t1252.toList))) x10_2 (wrap64 (x11_2 + 1)) x12_2 t1250 t1251 t1252 t1253 t1254 t1255) = some r := by rw [if_neg (show ¬ (false = true) by decide)] at H; exact H
                      clear H
                      have H := H1
                      clear H1
                      have H' := Aside0.mk H
                      clear H
                      try go_wp2
                      have n0_ := Aside0.mk (blk_drew BK1256.out)
                      have n1_ := Aside0.mk (blk_drew BK1257.out)
                      have n2_ := Aside0.mk (below_drew1 HB.out)
                      clear BK1256
                      clear BK1257
                      clear HB
                      have BK1256 := n0_
                      have BK1257 := n1_
                      have HB := n2_
                      clear n0_ n1_ n2_
                      have p1259 : 0 ≤ (x12_2 : Int) := of_decide_eq_true (by first | (with_reducible assumption) | assumption)
                      have q1259 : x12_2 < (l1.length : Int) := of_decide_eq_true (by first | (with_reducible assumption) | assumption)
                      obtain ⟨ad1259, e1259, hx1259_0, hx1259_1, hx1259_2⟩ := at_T39 HR1.out x12_2 p1259 q1259
                      have hw1259_2 := hx1259_2
                      have hw1259_1 := hx1259_1
                      have hw1259_0 := hx1259_0
                      obtain rfl : ad1258 = ad1259 := (by injection e1259)
                      replace hx1259_0 := (HB.out.cell (World.block_lt_of_cell? w _ hx1259_0)).trans hx1259_0
                      replace hx1259_1 := (HB.out.cell (World.block_lt_of_cell? w _ hx1259_1)).trans hx1259_1
                      replace hx1259_2 := (HB.out.cell (World.block_lt_of_cell? w _ hx1259_2)).trans hx1259_2
                      replace p1259 := eq_true p1259
                      replace q1259 := eq_true q1259
                      refine start_ (n := 10) (S := fun w' => w'.cell? ⟨gb1256, 0, none⟩ = some (.int .u8 t1250) ∧ w'.cell? ⟨gb1256, 1, none⟩ = some (.int .i64 t1251) ∧ w'.cell? ⟨gb1256, 2, none⟩ = some (.string t1252) ∧ w'.cell? (ad1258.add ((x12_2).toNat * 3)) = some (.int .u8 ((rd_T39 l1 x12_2).f0)) ∧ w'.cell? ⟨(ad1258.add ((x12_2).toNat * 3)).block, (ad1258.add ((x12_2).toNat * 3)).off + 1, none⟩ = some (.int .i64 ((rd_T39 l1 x12_2).f1)) ∧ w'.cell? ⟨(ad1258.add ((x12_2).toNat * 3)).block, (ad1258.add ((x12_2).toNat * 3)).off + 2, none⟩ = some (.string ((rd_T39 l1 x12_2).f2))) (ds := []) #[false, false, false, false, false, false, false, false, false, false] (by kernel_rfl) rfl rfl ⟨(blk_cell BK1256.out 0).trans rfl, (blk_cell BK1256.out 1).trans rfl, (blk_cell BK1256.out 2).trans rfl, ((HB.out.cell (World.block_lt_of_cell? w _ hw1259_0)).trans hw1259_0), ((HB.out.cell (World.block_lt_of_cell? w _ hw1259_1)).trans hw1259_1), ((HB.out.cell (World.block_lt_of_cell? w _ hw1259_2)).trans hw1259_2)⟩ (fun hHeld => ?_); refine with_tabW tidelinelaw06_ColumnLies.tab10 tidelinelaw06_ColumnLies.bits10 (fun HT_ HW_ => ?_)
                      generalize wr.drew = w23 at BK1256 BK1257 HB hx1259_0 hx1259_1 hx1259_2 hHeld ⊢
                      refine pure_ (i := 0) (N := some 43) (v := ?_) (a' := ?_) #[true, false, false, false, false, false, false, false, false, false] rfl rfl (any_of HT_.out (by kernel_rfl)) (fun _ _ _ h => h) (Or.inl ⟨by rfl, ?_⟩) ?_ ?_
                      rotate_left
                      · intro w'
                        go_simp
                        with_reducible rfl
                      rotate_left
                      · simp only [Act.put, List.setIfInBounds_toArray, List.set_cons_zero, List.set_cons_succ, i64_w, i32_w]
                        rfl
                      refine pure_ (i := 1) (N := some 44) (v := ?_) (a' := ?_) #[true, true, false, false, false, false, false, false, false, false] rfl rfl (any_of HT_.out (by kernel_rfl)) (fun _ _ _ h => h) (Or.inl ⟨by rfl, ?_⟩) ?_ ?_
                      rotate_left
                      · intro w'
                        go_simp
                        with_reducible rfl
                      rotate_left
                      · simp only [Act.put, List.setIfInBounds_toArray, List.set_cons_zero, List.set_cons_succ, i64_w, i32_w]
                        rfl
                      refine pure_ (i := 2) (N := some 45) (v := ?_) (a' := ?_) #[true, true, true, false, false, false, false, false, false, false] rfl rfl (any_of HT_.out (by kernel_rfl)) (fun _ _ _ h => h) (Or.inl ⟨by rfl, ?_⟩) ?_ ?_
                      rotate_left
                      · intro w'
                        go_simp
                        with_reducible rfl
                      rotate_left
                      · simp only [Act.put, List.setIfInBounds_toArray, List.set_cons_zero, List.set_cons_succ, i64_w, i32_w]
                        rfl
                      refine pure_ (i := 3) (N := some 46) (v := ?_) (a' := ?_) #[true, true, true, true, false, false, false, false, false, false] rfl rfl (any_of HT_.out (by kernel_rfl)) (fun _ _ _ h => h) (Or.inl ⟨by rfl, ?_⟩) ?_ ?_
                      rotate_left
                      · intro w'
                        go_simp
                        with_reducible rfl
                      rotate_left
                      · simp only [Act.put, List.setIfInBounds_toArray, List.set_cons_zero, List.set_cons_succ, i64_w, i32_w]
                        rfl
                      refine pure_ (i := 4) (N := some 47) (v := ?_) (a' := ?_) #[true, true, true, true, true, false, false, false, false, false] rfl rfl (any_of HT_.out (by kernel_rfl)) (fun _ _ _ h => h) (Or.inl ⟨by rfl, ?_⟩) ?_ ?_
                      rotate_left
                      · intro w'
                        go_simp
                        with_reducible rfl
                      rotate_left
                      · simp only [Act.put, List.setIfInBounds_toArray, List.set_cons_zero, List.set_cons_succ, i64_w, i32_w]
                        rfl
                      refine take_ (i := 5) (N := some 48) (v := ?_) (a' := ?_) #[true, true, true, true, true, true, false, false, false, false] rfl rfl (take_ofW HT_.out HW_.out (by kernel_rfl)) (fun _ _ _ h => h) (Or.inl ⟨by rfl, ?_⟩) hHeld ?_ ?_
                      rotate_left
                      · rintro w' ⟨s0, s1, s2, s3, s4, s5⟩
                        go_simp
                        with_reducible rfl
                      rotate_left
                      · simp only [Act.put, List.setIfInBounds_toArray, List.set_cons_zero, List.set_cons_succ, i64_w, i32_w]
                        rfl
                      refine take_ (i := 6) (N := some 49) (v := ?_) (a' := ?_) #[true, true, true, true, true, true, true, false, false, false] rfl rfl (take_ofW HT_.out HW_.out (by kernel_rfl)) (fun _ _ _ h => h) (Or.inl ⟨by rfl, ?_⟩) hHeld ?_ ?_
                      rotate_left
                      · rintro w' ⟨s0, s1, s2, s3, s4, s5⟩
                        go_simp
                        with_reducible rfl
                      rotate_left
                      · simp only [Act.put, List.setIfInBounds_toArray, List.set_cons_zero, List.set_cons_succ, i64_w, i32_w]
                        rfl
                      refine pure_ (i := 7) (N := some 50) (v := ?_) (a' := ?_) #[true, true, true, true, true, true, true, true, false, false] rfl rfl (any_of HT_.out (by kernel_rfl)) (fun _ _ _ h => h) (Or.inl ⟨by rfl, ?_⟩) ?_ ?_
                      rotate_left
                      · intro w'
                        go_simp
                        with_reducible rfl
                      rotate_left
                      · simp only [Act.put, List.setIfInBounds_toArray, List.set_cons_zero, List.set_cons_succ, i64_w, i32_w]
                        rfl
                      refine pure_ (i := 8) (N := some 51) (v := ?_) (a' := ?_) #[true, true, true, true, true, true, true, true, true, false] rfl rfl (any_of HT_.out (by kernel_rfl)) (fun _ _ _ h => h) (Or.inl ⟨by rfl, ?_⟩) ?_ ?_
                      rotate_left
                      · intro w'
                        go_simp
                        with_reducible rfl
                      rotate_left
                      · simp only [Act.put, List.setIfInBounds_toArray, List.set_cons_zero, List.set_cons_succ, i64_w, i32_w]
                        rfl
                      refine pure_ (i := 9) (N := some 9) (v := ?_) (a' := ?_) #[true, true, true, true, true, true, true, true, true, true] rfl rfl (any_of HT_.out (by kernel_rfl)) (fun _ _ _ h => h) (Or.inl ⟨by rfl, ?_⟩) ?_ ?_
                      rotate_left
                      · intro w'
                        go_simp
                        with_reducible rfl
                      rotate_left
                      · simp only [Act.put, List.setIfInBounds_toArray, List.set_cons_zero, List.set_cons_succ, i64_w, i32_w]
                        rfl
                      refine done_ (done_of HT_.out (by kernel_rfl)) ?_
                      try go_wp2
                      go_meet
                      case rel => exact ⟨_, ((((rd_T39 l1 x12_2).f0) == t1250 && (((rd_T39 l1 x12_2).f1) == t1251 && ((((rd_T39 l1 x12_2).f2).toList) == t1252.toList)))), (by first | rfl | (simp; done) | (simp [*]; done)), H', ⟨by have := HJ3.out; have := HK2.out; first | omega | exact Nat.le_refl _⟩, ⟨by (with_reducible repeat (first | refine blk_drewN ?_ _ | refine blk_drew ?_ | refine blk_alloc ?_ _)); exact BK1256.out⟩, ⟨by (with_reducible repeat (first | refine blk_drewN ?_ _ | refine blk_drew ?_ | refine blk_alloc ?_ _)); exact BK1257.out⟩, ⟨by repeat (first | (with_reducible first | exact HB.out | apply below_alloc | apply pw_below_drewN | apply below_drew1 | refine below_set ?_ GE1256.out | refine below_set ?_ GE1257.out) | exact HB.out)⟩⟩
                  case rest =>
                    clear HC20
                    try clear c1
                    try clear p1
                    try clear q1
                    try clear hx1
                    try clear c2
                    try clear p2
                    try clear c5
                    try clear c6
                    try clear p6
                    try clear c9
                    try clear p12
                    try clear q12
                    try clear hx12
                    try clear c14
                    try clear c17
                    try clear c17b0
                    try clear c18
                    try clear c18b0
                    try clear c19
                    try clear c19b0
                    try clear c19b1
                    try clear c21
                    try clear c23
                    try clear hcz15_0
                    try clear hcz15_1
                    try clear hcz15_2
                    try clear hcz16_0
                    try clear hcz16_1
                    try clear hcz16_2
                    try clear hfz15_0
                    try clear hfz15_1
                    try clear hfz15_2
                    try clear hfz16_0
                    try clear hfz16_1
                    try clear hfz16_2
                    try clear hx1258_0
                    try clear hx1258_1
                    try clear hx1258_2
                    try clear hx1259_0
                    try clear hx1259_1
                    try clear hx1259_2
                    try clear p1258
                    try clear p1259
                    try clear p2
                    try clear q1258
                    try clear q1259
                    obtain ⟨kq, x9_19, rfl, HA, HJ19, BK1256, BK1257, HB⟩ := hcut
                    cases kq with
                    | zero => exact absurd HA.out (by simp [tidelinelaw06_ColumnLies.j2])
                    | succ kj19 =>
                      have H := HA.out
                      clear HA
                      simp only [tidelinelaw06_ColumnLies.j2] at H
                      have HC24 := Aside0.mk H
                      clear H
                      go_upto_region 11 with (fail)
                      go_cut [10] (fun v10 wc => ∃ (kq : Nat) (x10_23 : Bool), v10 = .bool x10_23 ∧ Aside0 (tidelinelaw06_ColumnLies.j3 kq l1 a2 x9_19 x10_23 (wrap64 (x11_2 + 1)) x12_2 t1250 t1251 t1252 t1253 t1254 t1255 = some r) ∧ Aside0 (kq ≤ kj19) ∧ Aside0 (wc.heap[gb1256]? = some (.cells #[.int .u8 t1250, .int .i64 t1251, .string t1252] 39 (0, 0))) ∧ Aside0 (wc.heap[gb1257]? = some (.cells #[.int .u8 t1253, .int .i64 t1254, .string t1255] 39 (0, 0))) ∧ Aside0 (Below w.heap.size w wc))
                      case first =>
                        have H := HC24.out
                        clear HC24
                        by_cases c25 : x10_2 = true
                        · subst c25
                          have H1 : (tidelinelaw06_ColumnLies.j3 kj19 l1 a2 x9_19 true (wrap64 (x11_2 + 1)) x12_2 t1250 t1251 t1252 t1253 t1254 t1255) = some r := by rw [if_pos rfl] at H; exact H
                          clear H
                          have H := H1
                          clear H1
                          have H' := Aside0.mk H
                          clear H
                          try go_wp2
                          have n0_ := Aside0.mk (blk_drew BK1256.out)
                          have n1_ := Aside0.mk (blk_drew BK1257.out)
                          have n2_ := Aside0.mk (below_drew1 HB.out)
                          clear BK1256
                          clear BK1257
                          clear HB
                          have BK1256 := n0_
                          have BK1257 := n1_
                          have HB := n2_
                          clear n0_ n1_ n2_
                          refine start_ (n := 10) (S := fun w' => True) (ds := []) #[false, false, false, false, false, false, false, false, false, false] (by kernel_rfl) rfl rfl trivial (fun hHeld => ?_); refine with_tabW tidelinelaw06_ColumnLies.tab11 tidelinelaw06_ColumnLies.bits11 (fun HT_ HW_ => ?_)
                          generalize wc.drew = w26 at BK1256 BK1257 HB hHeld ⊢
                          refine pure_ (i := 0) (N := some 52) (v := ?_) (a' := ?_) #[true, false, false, false, false, false, false, false, false, false] rfl rfl (any_of HT_.out (by kernel_rfl)) (fun _ _ _ h => h) (Or.inl ⟨by rfl, ?_⟩) ?_ ?_
                          rotate_left
                          · intro w'
                            go_simp
                            with_reducible rfl
                          rotate_left
                          · simp only [Act.put, List.setIfInBounds_toArray, List.set_cons_zero, List.set_cons_succ, i64_w, i32_w]
                            rfl
                          refine pure_ (i := 1) (N := some 53) (v := ?_) (a' := ?_) #[true, true, false, false, false, false, false, false, false, false] rfl rfl (any_of HT_.out (by kernel_rfl)) (fun _ _ _ h => h) (Or.inl ⟨by rfl, ?_⟩) ?_ ?_
                          rotate_left
                          · intro w'
                            go_simp
                            with_reducible rfl
                          rotate_left
                          · simp only [Act.put, List.setIfInBounds_toArray, List.set_cons_zero, List.set_cons_succ, i64_w, i32_w]
                            rfl
                          refine pure_ (i := 2) (N := some 54) (v := undef) (a' := ?_) #[true, true, true, false, false, false, false, false, false, false] rfl rfl (any_of HT_.out (by kernel_rfl)) (fun _ _ _ h => h) (Or.inr ⟨by rfl, rfl⟩) ?_ ?_
                          rotate_left
                          · simp only [Act.put, List.setIfInBounds_toArray, List.set_cons_zero, List.set_cons_succ, i64_w, i32_w]
                            rfl
                          refine pure_ (i := 3) (N := some 55) (v := undef) (a' := ?_) #[true, true, true, true, false, false, false, false, false, false] rfl rfl (any_of HT_.out (by kernel_rfl)) (fun _ _ _ h => h) (Or.inr ⟨by rfl, rfl⟩) ?_ ?_
                          rotate_left
                          · simp only [Act.put, List.setIfInBounds_toArray, List.set_cons_zero, List.set_cons_succ, i64_w, i32_w]
                            rfl
                          refine pure_ (i := 4) (N := some 56) (v := undef) (a' := ?_) #[true, true, true, true, true, false, false, false, false, false] rfl rfl (any_of HT_.out (by kernel_rfl)) (fun _ _ _ h => h) (Or.inr ⟨by rfl, rfl⟩) ?_ ?_
                          rotate_left
                          · simp only [Act.put, List.setIfInBounds_toArray, List.set_cons_zero, List.set_cons_succ, i64_w, i32_w]
                            rfl
                          refine pure_ (i := 5) (N := some 57) (v := undef) (a' := ?_) #[true, true, true, true, true, true, false, false, false, false] rfl rfl (any_of HT_.out (by kernel_rfl)) (fun _ _ _ h => h) (Or.inr ⟨by rfl, rfl⟩) ?_ ?_
                          rotate_left
                          · simp only [Act.put, List.setIfInBounds_toArray, List.set_cons_zero, List.set_cons_succ, i64_w, i32_w]
                            rfl
                          refine pure_ (i := 6) (N := some 58) (v := undef) (a' := ?_) #[true, true, true, true, true, true, true, false, false, false] rfl rfl (any_of HT_.out (by kernel_rfl)) (fun _ _ _ h => h) (Or.inr ⟨by rfl, rfl⟩) ?_ ?_
                          rotate_left
                          · simp only [Act.put, List.setIfInBounds_toArray, List.set_cons_zero, List.set_cons_succ, i64_w, i32_w]
                            rfl
                          refine pure_ (i := 7) (N := some 59) (v := undef) (a' := ?_) #[true, true, true, true, true, true, true, true, false, false] rfl rfl (any_of HT_.out (by kernel_rfl)) (fun _ _ _ h => h) (Or.inr ⟨by rfl, rfl⟩) ?_ ?_
                          rotate_left
                          · simp only [Act.put, List.setIfInBounds_toArray, List.set_cons_zero, List.set_cons_succ, i64_w, i32_w]
                            rfl
                          refine pure_ (i := 8) (N := some 60) (v := ?_) (a' := ?_) #[true, true, true, true, true, true, true, true, true, false] rfl rfl (any_of HT_.out (by kernel_rfl)) (fun _ _ _ h => h) (Or.inl ⟨by rfl, ?_⟩) ?_ ?_
                          rotate_left
                          · intro w'
                            go_simp
                            with_reducible rfl
                          rotate_left
                          · simp only [Act.put, List.setIfInBounds_toArray, List.set_cons_zero, List.set_cons_succ, i64_w, i32_w]
                            rfl
                          refine pure_ (i := 9) (N := some 10) (v := ?_) (a' := ?_) #[true, true, true, true, true, true, true, true, true, true] rfl rfl (any_of HT_.out (by kernel_rfl)) (fun _ _ _ h => h) (Or.inl ⟨by rfl, ?_⟩) ?_ ?_
                          rotate_left
                          · intro w'
                            go_simp
                            with_reducible rfl
                          rotate_left
                          · simp only [Act.put, List.setIfInBounds_toArray, List.set_cons_zero, List.set_cons_succ, i64_w, i32_w]
                            rfl
                          refine done_ (done_of HT_.out (by kernel_rfl)) ?_
                          try go_wp2
                          go_meet
                          case rel => exact ⟨_, (true), (by first | rfl | (simp; done) | (simp [*]; done)), H', ⟨by have := HJ3.out; have := HK2.out; have := HJ19.out; first | omega | exact Nat.le_refl _⟩, ⟨by (with_reducible repeat (first | refine blk_drewN ?_ _ | refine blk_drew ?_ | refine blk_alloc ?_ _)); exact BK1256.out⟩, ⟨by (with_reducible repeat (first | refine blk_drewN ?_ _ | refine blk_drew ?_ | refine blk_alloc ?_ _)); exact BK1257.out⟩, ⟨by repeat (first | (with_reducible first | exact HB.out | apply below_alloc | apply pw_below_drewN | apply below_drew1 | refine below_set ?_ GE1256.out | refine below_set ?_ GE1257.out) | exact HB.out)⟩⟩
                        · replace c25 := Bool.eq_false_iff.mpr c25
                          subst c25
                          have H1 : (if 0 ≤ x12_2 then (if x12_2 < (l1.length : Int) then (tidelinelaw06_ColumnLies.j3 kj19 l1 a2 x9_19 (((rd_T39 l1 x12_2).f0) == t1253 && (((rd_T39 l1 x12_2).f1) == t1254 && ((((rd_T39 l1 x12_2).f2).toList) == t1255.toList))) (wrap64 (x11_2 + 1)) x12_2 t1250 t1251 t1252 t1253 t1254 t1255) else (none)) else (none)) = some r := by rw [if_neg (show ¬ (false = true) by decide)] at H; exact H
                          clear H
                          have H := H1
                          clear H1
                          by_cases c27 : 0 ≤ x12_2
                          · rw [if_pos c27] at H
                            have c27b0 : decide (0 ≤ x12_2) = true := decide_eq_true c27
                            clear c27
                            (first | rw [c27b0] | (simp only [i64_w, i32_w]; rw [c27b0]) | skip)
                            by_cases c28 : x12_2 < (l1.length : Int)
                            · rw [if_pos c28] at H
                              have c28b0 : decide (x12_2 < (l1.length : Int)) = true := decide_eq_true c28
                              clear c28
                              have H' := Aside0.mk H
                              clear H
                              try go_wp2
                              have n0_ := Aside0.mk (blk_drew BK1256.out)
                              have n1_ := Aside0.mk (blk_drew BK1257.out)
                              have n2_ := Aside0.mk (below_drew1 HB.out)
                              clear BK1256
                              clear BK1257
                              clear HB
                              have BK1256 := n0_
                              have BK1257 := n1_
                              have HB := n2_
                              clear n0_ n1_ n2_
                              have p1260 : 0 ≤ (x12_2 : Int) := of_decide_eq_true (by first | (with_reducible assumption) | assumption)
                              have q1260 : x12_2 < (l1.length : Int) := of_decide_eq_true (by first | (with_reducible assumption) | assumption)
                              obtain ⟨ad1260, e1260, hx1260_0, hx1260_1, hx1260_2⟩ := at_T39 HR1.out x12_2 p1260 q1260
                              have hw1260_2 := hx1260_2
                              have hw1260_1 := hx1260_1
                              have hw1260_0 := hx1260_0
                              obtain rfl : ad1258 = ad1260 := (by injection e1260)
                              replace hx1260_0 := (HB.out.cell (World.block_lt_of_cell? w _ hx1260_0)).trans hx1260_0
                              replace hx1260_1 := (HB.out.cell (World.block_lt_of_cell? w _ hx1260_1)).trans hx1260_1
                              replace hx1260_2 := (HB.out.cell (World.block_lt_of_cell? w _ hx1260_2)).trans hx1260_2
                              replace p1260 := eq_true p1260
                              replace q1260 := eq_true q1260
                              refine start_ (n := 10) (S := fun w' => w'.cell? ⟨gb1257, 0, none⟩ = some (.int .u8 t1253) ∧ w'.cell? ⟨gb1257, 1, none⟩ = some (.int .i64 t1254) ∧ w'.cell? ⟨gb1257, 2, none⟩ = some (.string t1255) ∧ w'.cell? (ad1258.add ((x12_2).toNat * 3)) = some (.int .u8 ((rd_T39 l1 x12_2).f0)) ∧ w'.cell? ⟨(ad1258.add ((x12_2).toNat * 3)).block, (ad1258.add ((x12_2).toNat * 3)).off + 1, none⟩ = some (.int .i64 ((rd_T39 l1 x12_2).f1)) ∧ w'.cell? ⟨(ad1258.add ((x12_2).toNat * 3)).block, (ad1258.add ((x12_2).toNat * 3)).off + 2, none⟩ = some (.string ((rd_T39 l1 x12_2).f2))) (ds := []) #[false, false, false, false, false, false, false, false, false, false] (by kernel_rfl) rfl rfl ⟨(blk_cell BK1257.out 0).trans rfl, (blk_cell BK1257.out 1).trans rfl, (blk_cell BK1257.out 2).trans rfl, ((HB.out.cell (World.block_lt_of_cell? w _ hw1260_0)).trans hw1260_0), ((HB.out.cell (World.block_lt_of_cell? w _ hw1260_1)).trans hw1260_1), ((HB.out.cell (World.block_lt_of_cell? w _ hw1260_2)).trans hw1260_2)⟩ (fun hHeld => ?_); refine with_tabW tidelinelaw06_ColumnLies.tab11 tidelinelaw06_ColumnLies.bits11 (fun HT_ HW_ => ?_)
                              generalize wc.drew = w29 at BK1256 BK1257 HB hx1260_0 hx1260_1 hx1260_2 hHeld ⊢
                              refine pure_ (i := 0) (N := some 52) (v := ?_) (a' := ?_) #[true, false, false, false, false, false, false, false, false, false] rfl rfl (any_of HT_.out (by kernel_rfl)) (fun _ _ _ h => h) (Or.inl ⟨by rfl, ?_⟩) ?_ ?_
                              rotate_left
                              · intro w'
                                go_simp
                                with_reducible rfl
                              rotate_left
                              · simp only [Act.put, List.setIfInBounds_toArray, List.set_cons_zero, List.set_cons_succ, i64_w, i32_w]
                                rfl
                              refine pure_ (i := 1) (N := some 53) (v := ?_) (a' := ?_) #[true, true, false, false, false, false, false, false, false, false] rfl rfl (any_of HT_.out (by kernel_rfl)) (fun _ _ _ h => h) (Or.inl ⟨by rfl, ?_⟩) ?_ ?_
                              rotate_left
                              · intro w'
                                go_simp
                                with_reducible rfl
                              rotate_left
                              · simp only [Act.put, List.setIfInBounds_toArray, List.set_cons_zero, List.set_cons_succ, i64_w, i32_w]
                                rfl
                              refine pure_ (i := 2) (N := some 54) (v := ?_) (a' := ?_) #[true, true, true, false, false, false, false, false, false, false] rfl rfl (any_of HT_.out (by kernel_rfl)) (fun _ _ _ h => h) (Or.inl ⟨by rfl, ?_⟩) ?_ ?_
                              rotate_left
                              · intro w'
                                go_simp
                                with_reducible rfl
                              rotate_left
                              · simp only [Act.put, List.setIfInBounds_toArray, List.set_cons_zero, List.set_cons_succ, i64_w, i32_w]
                                rfl
                              refine pure_ (i := 3) (N := some 55) (v := ?_) (a' := ?_) #[true, true, true, true, false, false, false, false, false, false] rfl rfl (any_of HT_.out (by kernel_rfl)) (fun _ _ _ h => h) (Or.inl ⟨by rfl, ?_⟩) ?_ ?_
                              rotate_left
                              · intro w'
                                go_simp
                                with_reducible rfl
                              rotate_left
                              · simp only [Act.put, List.setIfInBounds_toArray, List.set_cons_zero, List.set_cons_succ, i64_w, i32_w]
                                rfl
                              refine pure_ (i := 4) (N := some 56) (v := ?_) (a' := ?_) #[true, true, true, true, true, false, false, false, false, false] rfl rfl (any_of HT_.out (by kernel_rfl)) (fun _ _ _ h => h) (Or.inl ⟨by rfl, ?_⟩) ?_ ?_
                              rotate_left
                              · intro w'
                                go_simp
                                with_reducible rfl
                              rotate_left
                              · simp only [Act.put, List.setIfInBounds_toArray, List.set_cons_zero, List.set_cons_succ, i64_w, i32_w]
                                rfl
                              refine take_ (i := 5) (N := some 57) (v := ?_) (a' := ?_) #[true, true, true, true, true, true, false, false, false, false] rfl rfl (take_ofW HT_.out HW_.out (by kernel_rfl)) (fun _ _ _ h => h) (Or.inl ⟨by rfl, ?_⟩) hHeld ?_ ?_
                              rotate_left
                              · rintro w' ⟨s0, s1, s2, s3, s4, s5⟩
                                go_simp
                                with_reducible rfl
                              rotate_left
                              · simp only [Act.put, List.setIfInBounds_toArray, List.set_cons_zero, List.set_cons_succ, i64_w, i32_w]
                                rfl
                              refine take_ (i := 6) (N := some 58) (v := ?_) (a' := ?_) #[true, true, true, true, true, true, true, false, false, false] rfl rfl (take_ofW HT_.out HW_.out (by kernel_rfl)) (fun _ _ _ h => h) (Or.inl ⟨by rfl, ?_⟩) hHeld ?_ ?_
                              rotate_left
                              · rintro w' ⟨s0, s1, s2, s3, s4, s5⟩
                                go_simp
                                with_reducible rfl
                              rotate_left
                              · simp only [Act.put, List.setIfInBounds_toArray, List.set_cons_zero, List.set_cons_succ, i64_w, i32_w]
                                rfl
                              refine pure_ (i := 7) (N := some 59) (v := ?_) (a' := ?_) #[true, true, true, true, true, true, true, true, false, false] rfl rfl (any_of HT_.out (by kernel_rfl)) (fun _ _ _ h => h) (Or.inl ⟨by rfl, ?_⟩) ?_ ?_
                              rotate_left
                              · intro w'
                                go_simp
                                with_reducible rfl
                              rotate_left
                              · simp only [Act.put, List.setIfInBounds_toArray, List.set_cons_zero, List.set_cons_succ, i64_w, i32_w]
                                rfl
                              refine pure_ (i := 8) (N := some 60) (v := ?_) (a' := ?_) #[true, true, true, true, true, true, true, true, true, false] rfl rfl (any_of HT_.out (by kernel_rfl)) (fun _ _ _ h => h) (Or.inl ⟨by rfl, ?_⟩) ?_ ?_
                              rotate_left
                              · intro w'
                                go_simp
                                with_reducible rfl
                              rotate_left
                              · simp only [Act.put, List.setIfInBounds_toArray, List.set_cons_zero, List.set_cons_succ, i64_w, i32_w]
                                rfl
                              refine pure_ (i := 9) (N := some 10) (v := ?_) (a' := ?_) #[true, true, true, true, true, true, true, true, true, true] rfl rfl (any_of HT_.out (by kernel_rfl)) (fun _ _ _ h => h) (Or.inl ⟨by rfl, ?_⟩) ?_ ?_
                              rotate_left
                              · intro w'
                                go_simp
                                with_reducible rfl
                              rotate_left
                              · simp only [Act.put, List.setIfInBounds_toArray, List.set_cons_zero, List.set_cons_succ, i64_w, i32_w]
                                rfl
                              refine done_ (done_of HT_.out (by kernel_rfl)) ?_
                              try go_wp2
                              go_meet
                              case rel => exact ⟨_, ((((rd_T39 l1 x12_2).f0) == t1253 && (((rd_T39 l1 x12_2).f1) == t1254 && ((((rd_T39 l1 x12_2).f2).toList) == t1255.toList)))), (by first | rfl | (simp; done) | (simp [*]; done)), H', ⟨by have := HJ3.out; have := HK2.out; have := HJ19.out; first | omega | exact Nat.le_refl _⟩, ⟨by (with_reducible repeat (first | refine blk_drewN ?_ _ | refine blk_drew ?_ | refine blk_alloc ?_ _)); exact BK1256.out⟩, ⟨by (with_reducible repeat (first | refine blk_drewN ?_ _ | refine blk_drew ?_ | refine blk_alloc ?_ _)); exact BK1257.out⟩, ⟨by repeat (first | (with_reducible first | exact HB.out | apply below_alloc | apply pw_below_drewN | apply below_drew1 | refine below_set ?_ GE1256.out | refine below_set ?_ GE1257.out) | exact HB.out)⟩⟩
                            · rw [if_neg c28] at H
                              exact absurd H (by simp)
                          · rw [if_neg c27] at H
                            exact absurd H (by simp)
                      case rest =>
                        clear HC24
                        try clear c1
                        try clear p1
                        try clear q1
                        try clear hx1
                        try clear c2
                        try clear p2
                        try clear c5
                        try clear c6
                        try clear p6
                        try clear c9
                        try clear p12
                        try clear q12
                        try clear hx12
                        try clear c14
                        try clear c17
                        try clear c17b0
                        try clear c18
                        try clear c18b0
                        try clear c19
                        try clear c19b0
                        try clear c19b1
                        try clear c21
                        try clear c23
                        try clear c25
                        try clear c27
                        try clear c27b0
                        try clear c28
                        try clear c28b0
                        try clear hcz15_0
                        try clear hcz15_1
                        try clear hcz15_2
                        try clear hcz16_0
                        try clear hcz16_1
                        try clear hcz16_2
                        try clear hfz15_0
                        try clear hfz15_1
                        try clear hfz15_2
                        try clear hfz16_0
                        try clear hfz16_1
                        try clear hfz16_2
                        try clear hx1258_0
                        try clear hx1258_1
                        try clear hx1258_2
                        try clear hx1259_0
                        try clear hx1259_1
                        try clear hx1259_2
                        try clear hx1260_0
                        try clear hx1260_1
                        try clear hx1260_2
                        try clear p1
                        try clear p12
                        try clear p1258
                        try clear p1259
                        try clear p1260
                        try clear p2
                        try clear p6
                        try clear q1
                        try clear q12
                        try clear q1258
                        try clear q1259
                        try clear q1260
                        obtain ⟨kq, x10_23, rfl, HA, HJ23, BK1256, BK1257, HB⟩ := hcut
                        cases kq with
                        | zero => exact absurd HA.out (by simp [tidelinelaw06_ColumnLies.j3])
                        | succ kj23 =>
                          have H := HA.out
                          clear HA
                          simp only [tidelinelaw06_ColumnLies.j3] at H
                          by_cases c30 : 0 ≤ x12_2
                          · rw [if_pos c30] at H
                            have c30b0 : decide (0 ≤ x12_2) = true := decide_eq_true c30
                            clear c30
                            by_cases c31 : x12_2 < (l1.length : Int)
                            · rw [if_pos c31] at H
                              have c31b0 : decide (x12_2 < (l1.length : Int)) = true := decide_eq_true c31
                              clear c31
                              replace H := Option.bind_eq_some_iff.mp H
                              obtain ⟨t1262, A320, H⟩ := H
                              replace H : (if t1262 = true then (some false) else ((tidelineref03_Less.f t1253 t1254 t1255 ((rd_T39 l1 x12_2).f0) ((rd_T39 l1 x12_2).f1) ((rd_T39 l1 x12_2).f2)).bind fun t1264 => (if t1264 = true then (some false) else (tidelinelaw06_ColumnLies.l0 kj23 l1 a2 x9_19 x10_23 (wrap64 (x11_2 + 1)) (wrap64 (x12_2 + 1)) t1250 t1251 t1252 t1253 t1254 t1255)))) = some r := H
                              have A32 := Aside0.mk A320
                              clear A320
                              by_cases c33 : t1262 = true
                              · subst c33
                                have H1 : (some false) = some r := by rw [if_pos rfl] at H; exact H
                                clear H
                                have H := H1
                                clear H1
                                obtain rfl := Option.some.inj H
                                try go_wp2
                                have n0_ := Aside0.mk (blk_drew BK1256.out)
                                have n1_ := Aside0.mk (blk_drew BK1257.out)
                                have n2_ := Aside0.mk (below_drew1 HB.out)
                                clear BK1256
                                clear BK1257
                                clear HB
                                have BK1256 := n0_
                                have BK1257 := n1_
                                have HB := n2_
                                clear n0_ n1_ n2_
                                have p1261 : 0 ≤ (x12_2 : Int) := of_decide_eq_true (by first | (with_reducible assumption) | assumption)
                                have q1261 : x12_2 < (l1.length : Int) := of_decide_eq_true (by first | (with_reducible assumption) | assumption)
                                obtain ⟨ad1261, e1261, hx1261_0, hx1261_1, hx1261_2⟩ := at_T39 HR1.out x12_2 p1261 q1261
                                have hw1261_2 := hx1261_2
                                have hw1261_1 := hx1261_1
                                have hw1261_0 := hx1261_0
                                obtain rfl : ad1258 = ad1261 := (by injection e1261)
                                replace hx1261_0 := (HB.out.cell (World.block_lt_of_cell? w _ hx1261_0)).trans hx1261_0
                                replace hx1261_1 := (HB.out.cell (World.block_lt_of_cell? w _ hx1261_1)).trans hx1261_1
                                replace hx1261_2 := (HB.out.cell (World.block_lt_of_cell? w _ hx1261_2)).trans hx1261_2
                                replace p1261 := eq_true p1261
                                replace q1261 := eq_true q1261
                                refine start_ (n := 14) (S := fun w' => w'.cell? ⟨gb1256, 0, none⟩ = some (.int .u8 t1250) ∧ w'.cell? ⟨gb1256, 1, none⟩ = some (.int .i64 t1251) ∧ w'.cell? ⟨gb1256, 2, none⟩ = some (.string t1252) ∧ w'.cell? (ad1258.add ((x12_2).toNat * 3)) = some (.int .u8 ((rd_T39 l1 x12_2).f0)) ∧ w'.cell? ⟨(ad1258.add ((x12_2).toNat * 3)).block, (ad1258.add ((x12_2).toNat * 3)).off + 1, none⟩ = some (.int .i64 ((rd_T39 l1 x12_2).f1)) ∧ w'.cell? ⟨(ad1258.add ((x12_2).toNat * 3)).block, (ad1258.add ((x12_2).toNat * 3)).off + 2, none⟩ = some (.string ((rd_T39 l1 x12_2).f2))) (ds := []) #[false, false, false, false, false, false, false, false, false, false, false, false, false, false] (by kernel_rfl) rfl rfl ⟨(blk_cell BK1256.out 0).trans rfl, (blk_cell BK1256.out 1).trans rfl, (blk_cell BK1256.out 2).trans rfl, ((HB.out.cell (World.block_lt_of_cell? w _ hw1261_0)).trans hw1261_0), ((HB.out.cell (World.block_lt_of_cell? w _ hw1261_1)).trans hw1261_1), ((HB.out.cell (World.block_lt_of_cell? w _ hw1261_2)).trans hw1261_2)⟩ (fun hHeld => ?_); refine with_tabW tidelinelaw06_ColumnLies.tab12 tidelinelaw06_ColumnLies.bits12 (fun HT_ HW_ => ?_)
                                generalize wc.drew = w34 at BK1256 BK1257 HB hx1261_0 hx1261_1 hx1261_2 hHeld ⊢
                                refine pure_ (i := 0) (N := some 61) (v := ?_) (a' := ?_) #[true, false, false, false, false, false, false, false, false, false, false, false, false, false] rfl rfl (any_of HT_.out (by kernel_rfl)) (fun _ _ _ h => h) (Or.inl ⟨by rfl, ?_⟩) ?_ ?_
                                rotate_left
                                · intro w'
                                  go_simp
                                  with_reducible rfl
                                rotate_left
                                · simp only [Act.put, List.setIfInBounds_toArray, List.set_cons_zero, List.set_cons_succ, i64_w, i32_w]
                                  rfl
                                refine pure_ (i := 1) (N := some 62) (v := ?_) (a' := ?_) #[true, true, false, false, false, false, false, false, false, false, false, false, false, false] rfl rfl (any_of HT_.out (by kernel_rfl)) (fun _ _ _ h => h) (Or.inl ⟨by rfl, ?_⟩) ?_ ?_
                                rotate_left
                                · intro w'
                                  go_simp
                                  with_reducible rfl
                                rotate_left
                                · simp only [Act.put, List.setIfInBounds_toArray, List.set_cons_zero, List.set_cons_succ, i64_w, i32_w]
                                  rfl
                                refine pure_ (i := 2) (N := some 63) (v := ?_) (a' := ?_) #[true, true, true, false, false, false, false, false, false, false, false, false, false, false] rfl rfl (any_of HT_.out (by kernel_rfl)) (fun _ _ _ h => h) (Or.inl ⟨by rfl, ?_⟩) ?_ ?_
                                rotate_left
                                · intro w'
                                  go_simp
                                  with_reducible rfl
                                rotate_left
                                · simp only [Act.put, List.setIfInBounds_toArray, List.set_cons_zero, List.set_cons_succ, i64_w, i32_w]
                                  rfl
                                refine take_ (i := 3) (N := some 64) (v := ?_) (a' := ?_) #[true, true, true, true, false, false, false, false, false, false, false, false, false, false] rfl rfl (take_ofW HT_.out HW_.out (by kernel_rfl)) (fun _ _ _ h => h) (Or.inl ⟨by rfl, ?_⟩) hHeld ?_ ?_
                                rotate_left
                                · rintro w' ⟨s0, s1, s2, s3, s4, s5⟩
                                  go_simp
                                  with_reducible rfl
                                rotate_left
                                · simp only [Act.put, List.setIfInBounds_toArray, List.set_cons_zero, List.set_cons_succ, i64_w, i32_w]
                                  rfl
                                refine take_ (i := 4) (N := some 65) (v := ?_) (a' := ?_) #[true, true, true, true, true, false, false, false, false, false, false, false, false, false] rfl rfl (take_ofW HT_.out HW_.out (by kernel_rfl)) (fun _ _ _ h => h) (Or.inl ⟨by rfl, ?_⟩) hHeld ?_ ?_
                                rotate_left
                                · rintro w' ⟨s0, s1, s2, s3, s4, s5⟩
                                  go_simp
                                  with_reducible rfl
                                rotate_left
                                · simp only [Act.put, List.setIfInBounds_toArray, List.set_cons_zero, List.set_cons_succ, i64_w, i32_w]
                                  rfl
                                refine one_ (i := 5) (N := some 66) #[true, true, true, true, true, true, false, false, false, false, false, false, false, false] rfl rfl (one_of HT_.out (by kernel_rfl)) (by decide) (fun K hK => ?_)
                                refine goes_ Try.func64 (by kernel_rfl) rfl #[.agg #[.int .u8 ((rd_T39 l1 x12_2).f0), .int .i64 ((rd_T39 l1 x12_2).f1), .string ((rd_T39 l1 x12_2).f2)], .agg #[.int .u8 t1250, .int .i64 t1251, .string t1252]] (by rfl) rfl rfl (by (try simp only [List.map_toArray, List.map_cons, List.map_nil]); first | done | rfl | (simp only [List.length_drop, List.length_take]; rfl)) ?_
                                with_reducible refine (tidelineref03_Less.calls ((rd_T39 l1 x12_2).f0) ((rd_T39 l1 x12_2).f1) ((rd_T39 l1 x12_2).f2) t1250 t1251 t1252 true _ A32.out).mono ?_
                                rintro e w35 ⟨rfl, hb⟩
                                refine ⟨_, rfl, ?_⟩
                                have n0_ := Aside0.mk (blk_below (g := gb1256) (o := .cells #[.int .u8 t1250, .int .i64 t1251, .string t1252] 39 (0, 0)) (by (with_reducible repeat (first | refine blk_drewN ?_ _ | refine blk_drew ?_ | refine blk_alloc ?_ _)); exact BK1256.out) hb)
                                have n1_ := Aside0.mk (blk_below (g := gb1257) (o := .cells #[.int .u8 t1253, .int .i64 t1254, .string t1255] 39 (0, 0)) (by (with_reducible repeat (first | refine blk_drewN ?_ _ | refine blk_drew ?_ | refine blk_alloc ?_ _)); exact BK1257.out) hb)
                                have n2_ := Aside0.mk (below_step (by repeat (first | (with_reducible first | exact HB.out | apply below_alloc | apply pw_below_drewN | apply below_drew1 | refine below_set ?_ GE1256.out | refine below_set ?_ GE1257.out) | exact HB.out)) hb)
                                clear BK1256
                                clear BK1257
                                clear HB
                                have BK1256 := n0_
                                have BK1257 := n1_
                                have HB := n2_
                                clear n0_ n1_ n2_
                                (try clear hb)
                                (try clear hb2)
                                (try clear hk)
                                (try clear hi)
                                refine hK.out _ _ ⟨(blk_cell BK1256.out 0).trans rfl, (blk_cell BK1256.out 1).trans rfl, (blk_cell BK1256.out 2).trans rfl, ((HB.out.cell (World.block_lt_of_cell? w _ hw1261_0)).trans hw1261_0), ((HB.out.cell (World.block_lt_of_cell? w _ hw1261_1)).trans hw1261_1), ((HB.out.cell (World.block_lt_of_cell? w _ hw1261_2)).trans hw1261_2)⟩ (fun hHeld => ?_)
                                clear hK K
                                refine norm_ (a' := ?_) ?_ ?_
                                rotate_left
                                · show Act.put _ (some 66) _ = _
                                  simp only [Act.put, List.setIfInBounds_toArray, List.set_cons_zero, List.set_cons_succ, i64_w, i32_w]
                                  rfl
                                refine pure_ (i := 6) (N := some 67) (v := ?_) (a' := ?_) #[true, true, true, true, true, true, true, false, false, false, false, false, false, false] rfl rfl (any_of HT_.out (by kernel_rfl)) (fun _ _ _ h => h) (Or.inl ⟨by rfl, ?_⟩) ?_ ?_
                                rotate_left
                                · intro w'
                                  go_simp
                                  with_reducible rfl
                                rotate_left
                                · simp only [Act.put, List.setIfInBounds_toArray, List.set_cons_zero, List.set_cons_succ, i64_w, i32_w]
                                  rfl
                                refine pure_ (i := 7) (N := some 68) (v := undef) (a' := ?_) #[true, true, true, true, true, true, true, true, false, false, false, false, false, false] rfl rfl (any_of HT_.out (by kernel_rfl)) (fun _ _ _ h => h) (Or.inr ⟨by rfl, rfl⟩) ?_ ?_
                                rotate_left
                                · simp only [Act.put, List.setIfInBounds_toArray, List.set_cons_zero, List.set_cons_succ, i64_w, i32_w]
                                  rfl
                                refine pure_ (i := 8) (N := some 69) (v := undef) (a' := ?_) #[true, true, true, true, true, true, true, true, true, false, false, false, false, false] rfl rfl (any_of HT_.out (by kernel_rfl)) (fun _ _ _ h => h) (Or.inr ⟨by rfl, rfl⟩) ?_ ?_
                                rotate_left
                                · simp only [Act.put, List.setIfInBounds_toArray, List.set_cons_zero, List.set_cons_succ, i64_w, i32_w]
                                  rfl
                                refine pure_ (i := 9) (N := some 70) (v := undef) (a' := ?_) #[true, true, true, true, true, true, true, true, true, true, false, false, false, false] rfl rfl (any_of HT_.out (by kernel_rfl)) (fun _ _ _ h => h) (Or.inr ⟨by rfl, rfl⟩) ?_ ?_
                                rotate_left
                                · simp only [Act.put, List.setIfInBounds_toArray, List.set_cons_zero, List.set_cons_succ, i64_w, i32_w]
                                  rfl
                                refine pure_ (i := 10) (N := some 71) (v := undef) (a' := ?_) #[true, true, true, true, true, true, true, true, true, true, true, false, false, false] rfl rfl (any_of HT_.out (by kernel_rfl)) (fun _ _ _ h => h) (Or.inr ⟨by rfl, rfl⟩) ?_ ?_
                                rotate_left
                                · simp only [Act.put, List.setIfInBounds_toArray, List.set_cons_zero, List.set_cons_succ, i64_w, i32_w]
                                  rfl
                                refine pure_ (i := 11) (N := some 72) (v := undef) (a' := ?_) #[true, true, true, true, true, true, true, true, true, true, true, true, false, false] rfl rfl (any_of HT_.out (by kernel_rfl)) (fun _ _ _ h => h) (Or.inr ⟨by rfl, rfl⟩) ?_ ?_
                                rotate_left
                                · simp only [Act.put, List.setIfInBounds_toArray, List.set_cons_zero, List.set_cons_succ, i64_w, i32_w]
                                  rfl
                                refine pure_ (i := 12) (N := some 73) (v := undef) (a' := ?_) #[true, true, true, true, true, true, true, true, true, true, true, true, true, false] rfl rfl (any_of HT_.out (by kernel_rfl)) (fun _ _ _ h => h) (Or.inr ⟨by rfl, rfl⟩) ?_ ?_
                                rotate_left
                                · simp only [Act.put, List.setIfInBounds_toArray, List.set_cons_zero, List.set_cons_succ, i64_w, i32_w]
                                  rfl
                                refine pure_ (i := 13) (N := some 74) (v := ?_) (a' := ?_) #[true, true, true, true, true, true, true, true, true, true, true, true, true, true] rfl rfl (any_of HT_.out (by kernel_rfl)) (fun _ _ _ h => h) (Or.inl ⟨by rfl, ?_⟩) ?_ ?_
                                rotate_left
                                · intro w'
                                  go_simp
                                  with_reducible rfl
                                rotate_left
                                · simp only [Act.put, List.setIfInBounds_toArray, List.set_cons_zero, List.set_cons_succ, i64_w, i32_w]
                                  rfl
                                refine done_ (done_of HT_.out (by kernel_rfl)) ?_
                                try go_wp2
                                go_ret
                                exact ⟨by first | rfl | (simp [errW_none, errW_some] <;> rfl) | (simp [*, errW_none, errW_some] <;> rfl), by repeat (first | (with_reducible first | exact HB.out | apply below_alloc | apply pw_below_drewN | apply below_drew1 | refine below_set ?_ GE1256.out | refine below_set ?_ GE1257.out) | exact HB.out)⟩
                              · replace c33 := Bool.eq_false_iff.mpr c33
                                subst c33
                                have H1 : ((tidelineref03_Less.f t1253 t1254 t1255 ((rd_T39 l1 x12_2).f0) ((rd_T39 l1 x12_2).f1) ((rd_T39 l1 x12_2).f2)).bind fun t1264 => (if t1264 = true then (some false) else (tidelinelaw06_ColumnLies.l0 kj23 l1 a2 x9_19 x10_23 (wrap64 (x11_2 + 1)) (wrap64 (x12_2 + 1)) t1250 t1251 t1252 t1253 t1254 t1255))) = some r := by rw [if_neg (show ¬ (false = true) by decide)] at H; exact H
                                clear H
                                have H := H1
                                clear H1
                                replace H := Option.bind_eq_some_iff.mp H
                                obtain ⟨t1264, A360, H⟩ := H
                                replace H : (if t1264 = true then (some false) else (tidelinelaw06_ColumnLies.l0 kj23 l1 a2 x9_19 x10_23 (wrap64 (x11_2 + 1)) (wrap64 (x12_2 + 1)) t1250 t1251 t1252 t1253 t1254 t1255)) = some r := H
                                have A36 := Aside0.mk A360
                                clear A360
                                by_cases c37 : t1264 = true
                                · subst c37
                                  have H1 : (some false) = some r := by rw [if_pos rfl] at H; exact H
                                  clear H
                                  have H := H1
                                  clear H1
                                  obtain rfl := Option.some.inj H
                                  try go_wp2
                                  have n0_ := Aside0.mk (blk_drew BK1256.out)
                                  have n1_ := Aside0.mk (blk_drew BK1257.out)
                                  have n2_ := Aside0.mk (below_drew1 HB.out)
                                  clear BK1256
                                  clear BK1257
                                  clear HB
                                  have BK1256 := n0_
                                  have BK1257 := n1_
                                  have HB := n2_
                                  clear n0_ n1_ n2_
                                  have p1261 : 0 ≤ (x12_2 : Int) := of_decide_eq_true (by first | (with_reducible assumption) | assumption)
                                  have q1261 : x12_2 < (l1.length : Int) := of_decide_eq_true (by first | (with_reducible assumption) | assumption)
                                  obtain ⟨ad1261, e1261, hx1261_0, hx1261_1, hx1261_2⟩ := at_T39 HR1.out x12_2 p1261 q1261
                                  have hw1261_2 := hx1261_2
                                  have hw1261_1 := hx1261_1
                                  have hw1261_0 := hx1261_0
                                  obtain rfl : ad1258 = ad1261 := (by injection e1261)
                                  replace hx1261_0 := (HB.out.cell (World.block_lt_of_cell? w _ hx1261_0)).trans hx1261_0
                                  replace hx1261_1 := (HB.out.cell (World.block_lt_of_cell? w _ hx1261_1)).trans hx1261_1
                                  replace hx1261_2 := (HB.out.cell (World.block_lt_of_cell? w _ hx1261_2)).trans hx1261_2
                                  replace p1261 := eq_true p1261
                                  replace q1261 := eq_true q1261
                                  have p1263 : 0 ≤ (x12_2 : Int) := of_decide_eq_true (by first | (with_reducible assumption) | assumption)
                                  have q1263 : x12_2 < (l1.length : Int) := of_decide_eq_true (by first | (with_reducible assumption) | assumption)
                                  obtain ⟨ad1263, e1263, hx1263_0, hx1263_1, hx1263_2⟩ := at_T39 HR1.out x12_2 p1263 q1263
                                  have hw1263_2 := hx1263_2
                                  have hw1263_1 := hx1263_1
                                  have hw1263_0 := hx1263_0
                                  obtain rfl : ad1258 = ad1263 := (by injection e1263)
                                  replace hx1263_0 := (HB.out.cell (World.block_lt_of_cell? w _ hx1263_0)).trans hx1263_0
                                  replace hx1263_1 := (HB.out.cell (World.block_lt_of_cell? w _ hx1263_1)).trans hx1263_1
                                  replace hx1263_2 := (HB.out.cell (World.block_lt_of_cell? w _ hx1263_2)).trans hx1263_2
                                  replace p1263 := eq_true p1263
                                  replace q1263 := eq_true q1263
                                  refine start_ (n := 14) (S := fun w' => w'.cell? ⟨gb1256, 0, none⟩ = some (.int .u8 t1250) ∧ w'.cell? ⟨gb1256, 1, none⟩ = some (.int .i64 t1251) ∧ w'.cell? ⟨gb1256, 2, none⟩ = some (.string t1252) ∧ w'.cell? ⟨gb1257, 0, none⟩ = some (.int .u8 t1253) ∧ w'.cell? ⟨gb1257, 1, none⟩ = some (.int .i64 t1254) ∧ w'.cell? ⟨gb1257, 2, none⟩ = some (.string t1255) ∧ w'.cell? (ad1258.add ((x12_2).toNat * 3)) = some (.int .u8 ((rd_T39 l1 x12_2).f0)) ∧ w'.cell? ⟨(ad1258.add ((x12_2).toNat * 3)).block, (ad1258.add ((x12_2).toNat * 3)).off + 1, none⟩ = some (.int .i64 ((rd_T39 l1 x12_2).f1)) ∧ w'.cell? ⟨(ad1258.add ((x12_2).toNat * 3)).block, (ad1258.add ((x12_2).toNat * 3)).off + 2, none⟩ = some (.string ((rd_T39 l1 x12_2).f2)) ∧ w'.cell? (ad1258.add ((x12_2).toNat * 3)) = some (.int .u8 ((rd_T39 l1 x12_2).f0)) ∧ w'.cell? ⟨(ad1258.add ((x12_2).toNat * 3)).block, (ad1258.add ((x12_2).toNat * 3)).off + 1, none⟩ = some (.int .i64 ((rd_T39 l1 x12_2).f1)) ∧ w'.cell? ⟨(ad1258.add ((x12_2).toNat * 3)).block, (ad1258.add ((x12_2).toNat * 3)).off + 2, none⟩ = some (.string ((rd_T39 l1 x12_2).f2))) (ds := []) #[false, false, false, false, false, false, false, false, false, false, false, false, false, false] (by kernel_rfl) rfl rfl ⟨(blk_cell BK1256.out 0).trans rfl, (blk_cell BK1256.out 1).trans rfl, (blk_cell BK1256.out 2).trans rfl, (blk_cell BK1257.out 0).trans rfl, (blk_cell BK1257.out 1).trans rfl, (blk_cell BK1257.out 2).trans rfl, ((HB.out.cell (World.block_lt_of_cell? w _ hw1261_0)).trans hw1261_0), ((HB.out.cell (World.block_lt_of_cell? w _ hw1261_1)).trans hw1261_1), ((HB.out.cell (World.block_lt_of_cell? w _ hw1261_2)).trans hw1261_2), ((HB.out.cell (World.block_lt_of_cell? w _ hw1263_0)).trans hw1263_0), ((HB.out.cell (World.block_lt_of_cell? w _ hw1263_1)).trans hw1263_1), ((HB.out.cell (World.block_lt_of_cell? w _ hw1263_2)).trans hw1263_2)⟩ (fun hHeld => ?_); refine with_tabW tidelinelaw06_ColumnLies.tab12 tidelinelaw06_ColumnLies.bits12 (fun HT_ HW_ => ?_)
                                  generalize wc.drew = w38 at BK1256 BK1257 HB hx1261_0 hx1261_1 hx1261_2 hx1263_0 hx1263_1 hx1263_2 hHeld ⊢
                                  refine pure_ (i := 0) (N := some 61) (v := ?_) (a' := ?_) #[true, false, false, false, false, false, false, false, false, false, false, false, false, false] rfl rfl (any_of HT_.out (by kernel_rfl)) (fun _ _ _ h => h) (Or.inl ⟨by rfl, ?_⟩) ?_ ?_
                                  rotate_left
                                  · intro w'
                                    go_simp
                                    with_reducible rfl
                                  rotate_left
                                  · simp only [Act.put, List.setIfInBounds_toArray, List.set_cons_zero, List.set_cons_succ, i64_w, i32_w]
                                    rfl
                                  refine pure_ (i := 1) (N := some 62) (v := ?_) (a' := ?_) #[true, true, false, false, false, false, false, false, false, false, false, false, false, false] rfl rfl (any_of HT_.out (by kernel_rfl)) (fun _ _ _ h => h) (Or.inl ⟨by rfl, ?_⟩) ?_ ?_
                                  rotate_left
                                  · intro w'
                                    go_simp
                                    with_reducible rfl
                                  rotate_left
                                  · simp only [Act.put, List.setIfInBounds_toArray, List.set_cons_zero, List.set_cons_succ, i64_w, i32_w]
                                    rfl
                                  refine pure_ (i := 2) (N := some 63) (v := ?_) (a' := ?_) #[true, true, true, false, false, false, false, false, false, false, false, false, false, false] rfl rfl (any_of HT_.out (by kernel_rfl)) (fun _ _ _ h => h) (Or.inl ⟨by rfl, ?_⟩) ?_ ?_
                                  rotate_left
                                  · intro w'
                                    go_simp
                                    with_reducible rfl
                                  rotate_left
                                  · simp only [Act.put, List.setIfInBounds_toArray, List.set_cons_zero, List.set_cons_succ, i64_w, i32_w]
                                    rfl
                                  refine take_ (i := 3) (N := some 64) (v := ?_) (a' := ?_) #[true, true, true, true, false, false, false, false, false, false, false, false, false, false] rfl rfl (take_ofW HT_.out HW_.out (by kernel_rfl)) (fun _ _ _ h => h) (Or.inl ⟨by rfl, ?_⟩) hHeld ?_ ?_
                                  rotate_left
                                  · rintro w' ⟨s0, s1, s2, s3, s4, s5, s6, s7, s8, s9, s10, s11⟩
                                    go_simp
                                    with_reducible rfl
                                  rotate_left
                                  · simp only [Act.put, List.setIfInBounds_toArray, List.set_cons_zero, List.set_cons_succ, i64_w, i32_w]
                                    rfl
                                  refine take_ (i := 4) (N := some 65) (v := ?_) (a' := ?_) #[true, true, true, true, true, false, false, false, false, false, false, false, false, false] rfl rfl (take_ofW HT_.out HW_.out (by kernel_rfl)) (fun _ _ _ h => h) (Or.inl ⟨by rfl, ?_⟩) hHeld ?_ ?_
                                  rotate_left
                                  · rintro w' ⟨s0, s1, s2, s3, s4, s5, s6, s7, s8, s9, s10, s11⟩
                                    go_simp
                                    with_reducible rfl
                                  rotate_left
                                  · simp only [Act.put, List.setIfInBounds_toArray, List.set_cons_zero, List.set_cons_succ, i64_w, i32_w]
                                    rfl
                                  refine one_ (i := 5) (N := some 66) #[true, true, true, true, true, true, false, false, false, false, false, false, false, false] rfl rfl (one_of HT_.out (by kernel_rfl)) (by decide) (fun K hK => ?_)
                                  refine goes_ Try.func64 (by kernel_rfl) rfl #[.agg #[.int .u8 ((rd_T39 l1 x12_2).f0), .int .i64 ((rd_T39 l1 x12_2).f1), .string ((rd_T39 l1 x12_2).f2)], .agg #[.int .u8 t1250, .int .i64 t1251, .string t1252]] (by rfl) rfl rfl (by (try simp only [List.map_toArray, List.map_cons, List.map_nil]); first | done | rfl | (simp only [List.length_drop, List.length_take]; rfl)) ?_
                                  with_reducible refine (tidelineref03_Less.calls ((rd_T39 l1 x12_2).f0) ((rd_T39 l1 x12_2).f1) ((rd_T39 l1 x12_2).f2) t1250 t1251 t1252 false _ A32.out).mono ?_
                                  rintro e w39 ⟨rfl, hb⟩
                                  refine ⟨_, rfl, ?_⟩
                                  have n0_ := Aside0.mk (blk_below (g := gb1256) (o := .cells #[.int .u8 t1250, .int .i64 t1251, .string t1252] 39 (0, 0)) (by (with_reducible repeat (first | refine blk_drewN ?_ _ | refine blk_drew ?_ | refine blk_alloc ?_ _)); exact BK1256.out) hb)
                                  have n1_ := Aside0.mk (blk_below (g := gb1257) (o := .cells #[.int .u8 t1253, .int .i64 t1254, .string t1255] 39 (0, 0)) (by (with_reducible repeat (first | refine blk_drewN ?_ _ | refine blk_drew ?_ | refine blk_alloc ?_ _)); exact BK1257.out) hb)
                                  have n2_ := Aside0.mk (below_step (by repeat (first | (with_reducible first | exact HB.out | apply below_alloc | apply pw_below_drewN | apply below_drew1 | refine below_set ?_ GE1256.out | refine below_set ?_ GE1257.out) | exact HB.out)) hb)
                                  clear BK1256
                                  clear BK1257
                                  clear HB
                                  have BK1256 := n0_
                                  have BK1257 := n1_
                                  have HB := n2_
                                  clear n0_ n1_ n2_
                                  (try clear hb)
                                  (try clear hb2)
                                  (try clear hk)
                                  (try clear hi)
                                  refine hK.out _ _ ⟨(blk_cell BK1256.out 0).trans rfl, (blk_cell BK1256.out 1).trans rfl, (blk_cell BK1256.out 2).trans rfl, (blk_cell BK1257.out 0).trans rfl, (blk_cell BK1257.out 1).trans rfl, (blk_cell BK1257.out 2).trans rfl, ((HB.out.cell (World.block_lt_of_cell? w _ hw1261_0)).trans hw1261_0), ((HB.out.cell (World.block_lt_of_cell? w _ hw1261_1)).trans hw1261_1), ((HB.out.cell (World.block_lt_of_cell? w _ hw1261_2)).trans hw1261_2), ((HB.out.cell (World.block_lt_of_cell? w _ hw1263_0)).trans hw1263_0), ((HB.out.cell (World.block_lt_of_cell? w _ hw1263_1)).trans hw1263_1), ((HB.out.cell (World.block_lt_of_cell? w _ hw1263_2)).trans hw1263_2)⟩ (fun hHeld => ?_)
                                  clear hK K
                                  refine norm_ (a' := ?_) ?_ ?_
                                  rotate_left
                                  · show Act.put _ (some 66) _ = _
                                    simp only [Act.put, List.setIfInBounds_toArray, List.set_cons_zero, List.set_cons_succ, i64_w, i32_w]
                                    rfl
                                  refine pure_ (i := 6) (N := some 67) (v := ?_) (a' := ?_) #[true, true, true, true, true, true, true, false, false, false, false, false, false, false] rfl rfl (any_of HT_.out (by kernel_rfl)) (fun _ _ _ h => h) (Or.inl ⟨by rfl, ?_⟩) ?_ ?_
                                  rotate_left
                                  · intro w'
                                    go_simp
                                    with_reducible rfl
                                  rotate_left
                                  · simp only [Act.put, List.setIfInBounds_toArray, List.set_cons_zero, List.set_cons_succ, i64_w, i32_w]
                                    rfl
                                  refine pure_ (i := 8) (N := some 69) (v := ?_) (a' := ?_) #[true, true, true, true, true, true, true, false, true, false, false, false, false, false] rfl rfl (any_of HT_.out (by kernel_rfl)) (fun _ _ _ h => h) (Or.inl ⟨by rfl, ?_⟩) ?_ ?_
                                  rotate_left
                                  · intro w'
                                    go_simp
                                    with_reducible rfl
                                  rotate_left
                                  · simp only [Act.put, List.setIfInBounds_toArray, List.set_cons_zero, List.set_cons_succ, i64_w, i32_w]
                                    rfl
                                  refine pure_ (i := 9) (N := some 70) (v := ?_) (a' := ?_) #[true, true, true, true, true, true, true, false, true, true, false, false, false, false] rfl rfl (any_of HT_.out (by kernel_rfl)) (fun _ _ _ h => h) (Or.inl ⟨by rfl, ?_⟩) ?_ ?_
                                  rotate_left
                                  · intro w'
                                    go_simp
                                    with_reducible rfl
                                  rotate_left
                                  · simp only [Act.put, List.setIfInBounds_toArray, List.set_cons_zero, List.set_cons_succ, i64_w, i32_w]
                                    rfl
                                  refine pure_ (i := 10) (N := some 71) (v := ?_) (a' := ?_) #[true, true, true, true, true, true, true, false, true, true, true, false, false, false] rfl rfl (any_of HT_.out (by kernel_rfl)) (fun _ _ _ h => h) (Or.inl ⟨by rfl, ?_⟩) ?_ ?_
                                  rotate_left
                                  · intro w'
                                    go_simp
                                    with_reducible rfl
                                  rotate_left
                                  · simp only [Act.put, List.setIfInBounds_toArray, List.set_cons_zero, List.set_cons_succ, i64_w, i32_w]
                                    rfl
                                  refine take_ (i := 7) (N := some 68) (v := ?_) (a' := ?_) #[true, true, true, true, true, true, true, true, true, true, true, false, false, false] rfl rfl (take_ofW HT_.out HW_.out (by kernel_rfl)) (fun _ _ _ h => h) (Or.inl ⟨by rfl, ?_⟩) hHeld ?_ ?_
                                  rotate_left
                                  · rintro w' ⟨s0, s1, s2, s3, s4, s5, s6, s7, s8, s9, s10, s11⟩
                                    go_simp
                                    with_reducible rfl
                                  rotate_left
                                  · simp only [Act.put, List.setIfInBounds_toArray, List.set_cons_zero, List.set_cons_succ, i64_w, i32_w]
                                    rfl
                                  refine take_ (i := 11) (N := some 72) (v := ?_) (a' := ?_) #[true, true, true, true, true, true, true, true, true, true, true, true, false, false] rfl rfl (take_ofW HT_.out HW_.out (by kernel_rfl)) (fun _ _ _ h => h) (Or.inl ⟨by rfl, ?_⟩) hHeld ?_ ?_
                                  rotate_left
                                  · rintro w' ⟨s0, s1, s2, s3, s4, s5, s6, s7, s8, s9, s10, s11⟩
                                    go_simp
                                    with_reducible rfl
                                  rotate_left
                                  · simp only [Act.put, List.setIfInBounds_toArray, List.set_cons_zero, List.set_cons_succ, i64_w, i32_w]
                                    rfl
                                  refine one_ (i := 12) (N := some 73) #[true, true, true, true, true, true, true, true, true, true, true, true, true, false] rfl rfl (one_of HT_.out (by kernel_rfl)) (by decide) (fun K hK => ?_)
                                  refine goes_ Try.func64 (by kernel_rfl) rfl #[.agg #[.int .u8 t1253, .int .i64 t1254, .string t1255], .agg #[.int .u8 ((rd_T39 l1 x12_2).f0), .int .i64 ((rd_T39 l1 x12_2).f1), .string ((rd_T39 l1 x12_2).f2)]] (by rfl) rfl rfl (by (try simp only [List.map_toArray, List.map_cons, List.map_nil]); first | done | rfl | (simp only [List.length_drop, List.length_take]; rfl)) ?_
                                  with_reducible refine (tidelineref03_Less.calls t1253 t1254 t1255 ((rd_T39 l1 x12_2).f0) ((rd_T39 l1 x12_2).f1) ((rd_T39 l1 x12_2).f2) true _ A36.out).mono ?_
                                  rintro e w40 ⟨rfl, hb⟩
                                  refine ⟨_, rfl, ?_⟩
                                  have n0_ := Aside0.mk (blk_below (g := gb1256) (o := .cells #[.int .u8 t1250, .int .i64 t1251, .string t1252] 39 (0, 0)) (by (with_reducible repeat (first | refine blk_drewN ?_ _ | refine blk_drew ?_ | refine blk_alloc ?_ _)); exact BK1256.out) hb)
                                  have n1_ := Aside0.mk (blk_below (g := gb1257) (o := .cells #[.int .u8 t1253, .int .i64 t1254, .string t1255] 39 (0, 0)) (by (with_reducible repeat (first | refine blk_drewN ?_ _ | refine blk_drew ?_ | refine blk_alloc ?_ _)); exact BK1257.out) hb)
                                  have n2_ := Aside0.mk (below_step (by repeat (first | (with_reducible first | exact HB.out | apply below_alloc | apply pw_below_drewN | apply below_drew1 | refine below_set ?_ GE1256.out | refine below_set ?_ GE1257.out) | exact HB.out)) hb)
                                  clear BK1256
                                  clear BK1257
                                  clear HB
                                  have BK1256 := n0_
                                  have BK1257 := n1_
                                  have HB := n2_
                                  clear n0_ n1_ n2_
                                  (try clear hb)
                                  (try clear hb2)
                                  (try clear hk)
                                  (try clear hi)
                                  refine hK.out _ _ ⟨(blk_cell BK1256.out 0).trans rfl, (blk_cell BK1256.out 1).trans rfl, (blk_cell BK1256.out 2).trans rfl, (blk_cell BK1257.out 0).trans rfl, (blk_cell BK1257.out 1).trans rfl, (blk_cell BK1257.out 2).trans rfl, ((HB.out.cell (World.block_lt_of_cell? w _ hw1261_0)).trans hw1261_0), ((HB.out.cell (World.block_lt_of_cell? w _ hw1261_1)).trans hw1261_1), ((HB.out.cell (World.block_lt_of_cell? w _ hw1261_2)).trans hw1261_2), ((HB.out.cell (World.block_lt_of_cell? w _ hw1263_0)).trans hw1263_0), ((HB.out.cell (World.block_lt_of_cell? w _ hw1263_1)).trans hw1263_1), ((HB.out.cell (World.block_lt_of_cell? w _ hw1263_2)).trans hw1263_2)⟩ (fun hHeld => ?_)
                                  clear hK K
                                  refine norm_ (a' := ?_) ?_ ?_
                                  rotate_left
                                  · show Act.put _ (some 73) _ = _
                                    simp only [Act.put, List.setIfInBounds_toArray, List.set_cons_zero, List.set_cons_succ, i64_w, i32_w]
                                    rfl
                                  refine pure_ (i := 13) (N := some 74) (v := ?_) (a' := ?_) #[true, true, true, true, true, true, true, true, true, true, true, true, true, true] rfl rfl (any_of HT_.out (by kernel_rfl)) (fun _ _ _ h => h) (Or.inl ⟨by rfl, ?_⟩) ?_ ?_
                                  rotate_left
                                  · intro w'
                                    go_simp
                                    with_reducible rfl
                                  rotate_left
                                  · simp only [Act.put, List.setIfInBounds_toArray, List.set_cons_zero, List.set_cons_succ, i64_w, i32_w]
                                    rfl
                                  refine done_ (done_of HT_.out (by kernel_rfl)) ?_
                                  try go_wp2
                                  go_ret
                                  exact ⟨by first | rfl | (simp [errW_none, errW_some] <;> rfl) | (simp [*, errW_none, errW_some] <;> rfl), by repeat (first | (with_reducible first | exact HB.out | apply below_alloc | apply pw_below_drewN | apply below_drew1 | refine below_set ?_ GE1256.out | refine below_set ?_ GE1257.out) | exact HB.out)⟩
                                · replace c37 := Bool.eq_false_iff.mpr c37
                                  subst c37
                                  have H1 : (tidelinelaw06_ColumnLies.l0 kj23 l1 a2 x9_19 x10_23 (wrap64 (x11_2 + 1)) (wrap64 (x12_2 + 1)) t1250 t1251 t1252 t1253 t1254 t1255) = some r := by rw [if_neg (show ¬ (false = true) by decide)] at H; exact H
                                  clear H
                                  have H := H1
                                  clear H1
                                  have H' := Aside0.mk H
                                  clear H
                                  try go_wp2
                                  have n0_ := Aside0.mk (blk_drew BK1256.out)
                                  have n1_ := Aside0.mk (blk_drew BK1257.out)
                                  have n2_ := Aside0.mk (below_drew1 HB.out)
                                  clear BK1256
                                  clear BK1257
                                  clear HB
                                  have BK1256 := n0_
                                  have BK1257 := n1_
                                  have HB := n2_
                                  clear n0_ n1_ n2_
                                  have p1261 : 0 ≤ (x12_2 : Int) := of_decide_eq_true (by first | (with_reducible assumption) | assumption)
                                  have q1261 : x12_2 < (l1.length : Int) := of_decide_eq_true (by first | (with_reducible assumption) | assumption)
                                  obtain ⟨ad1261, e1261, hx1261_0, hx1261_1, hx1261_2⟩ := at_T39 HR1.out x12_2 p1261 q1261
                                  have hw1261_2 := hx1261_2
                                  have hw1261_1 := hx1261_1
                                  have hw1261_0 := hx1261_0
                                  obtain rfl : ad1258 = ad1261 := (by injection e1261)
                                  replace hx1261_0 := (HB.out.cell (World.block_lt_of_cell? w _ hx1261_0)).trans hx1261_0
                                  replace hx1261_1 := (HB.out.cell (World.block_lt_of_cell? w _ hx1261_1)).trans hx1261_1
                                  replace hx1261_2 := (HB.out.cell (World.block_lt_of_cell? w _ hx1261_2)).trans hx1261_2
                                  replace p1261 := eq_true p1261
                                  replace q1261 := eq_true q1261
                                  have p1263 : 0 ≤ (x12_2 : Int) := of_decide_eq_true (by first | (with_reducible assumption) | assumption)
                                  have q1263 : x12_2 < (l1.length : Int) := of_decide_eq_true (by first | (with_reducible assumption) | assumption)
                                  obtain ⟨ad1263, e1263, hx1263_0, hx1263_1, hx1263_2⟩ := at_T39 HR1.out x12_2 p1263 q1263
                                  have hw1263_2 := hx1263_2
                                  have hw1263_1 := hx1263_1
                                  have hw1263_0 := hx1263_0
                                  obtain rfl : ad1258 = ad1263 := (by injection e1263)
                                  replace hx1263_0 := (HB.out.cell (World.block_lt_of_cell? w _ hx1263_0)).trans hx1263_0
                                  replace hx1263_1 := (HB.out.cell (World.block_lt_of_cell? w _ hx1263_1)).trans hx1263_1
                                  replace hx1263_2 := (HB.out.cell (World.block_lt_of_cell? w _ hx1263_2)).trans hx1263_2
                                  replace p1263 := eq_true p1263
                                  replace q1263 := eq_true q1263
                                  refine start_ (n := 14) (S := fun w' => w'.cell? ⟨gb1256, 0, none⟩ = some (.int .u8 t1250) ∧ w'.cell? ⟨gb1256, 1, none⟩ = some (.int .i64 t1251) ∧ w'.cell? ⟨gb1256, 2, none⟩ = some (.string t1252) ∧ w'.cell? ⟨gb1257, 0, none⟩ = some (.int .u8 t1253) ∧ w'.cell? ⟨gb1257, 1, none⟩ = some (.int .i64 t1254) ∧ w'.cell? ⟨gb1257, 2, none⟩ = some (.string t1255) ∧ w'.cell? (ad1258.add ((x12_2).toNat * 3)) = some (.int .u8 ((rd_T39 l1 x12_2).f0)) ∧ w'.cell? ⟨(ad1258.add ((x12_2).toNat * 3)).block, (ad1258.add ((x12_2).toNat * 3)).off + 1, none⟩ = some (.int .i64 ((rd_T39 l1 x12_2).f1)) ∧ w'.cell? ⟨(ad1258.add ((x12_2).toNat * 3)).block, (ad1258.add ((x12_2).toNat * 3)).off + 2, none⟩ = some (.string ((rd_T39 l1 x12_2).f2)) ∧ w'.cell? (ad1258.add ((x12_2).toNat * 3)) = some (.int .u8 ((rd_T39 l1 x12_2).f0)) ∧ w'.cell? ⟨(ad1258.add ((x12_2).toNat * 3)).block, (ad1258.add ((x12_2).toNat * 3)).off + 1, none⟩ = some (.int .i64 ((rd_T39 l1 x12_2).f1)) ∧ w'.cell? ⟨(ad1258.add ((x12_2).toNat * 3)).block, (ad1258.add ((x12_2).toNat * 3)).off + 2, none⟩ = some (.string ((rd_T39 l1 x12_2).f2))) (ds := []) #[false, false, false, false, false, false, false, false, false, false, false, false, false, false] (by kernel_rfl) rfl rfl ⟨(blk_cell BK1256.out 0).trans rfl, (blk_cell BK1256.out 1).trans rfl, (blk_cell BK1256.out 2).trans rfl, (blk_cell BK1257.out 0).trans rfl, (blk_cell BK1257.out 1).trans rfl, (blk_cell BK1257.out 2).trans rfl, ((HB.out.cell (World.block_lt_of_cell? w _ hw1261_0)).trans hw1261_0), ((HB.out.cell (World.block_lt_of_cell? w _ hw1261_1)).trans hw1261_1), ((HB.out.cell (World.block_lt_of_cell? w _ hw1261_2)).trans hw1261_2), ((HB.out.cell (World.block_lt_of_cell? w _ hw1263_0)).trans hw1263_0), ((HB.out.cell (World.block_lt_of_cell? w _ hw1263_1)).trans hw1263_1), ((HB.out.cell (World.block_lt_of_cell? w _ hw1263_2)).trans hw1263_2)⟩ (fun hHeld => ?_); refine with_tabW tidelinelaw06_ColumnLies.tab12 tidelinelaw06_ColumnLies.bits12 (fun HT_ HW_ => ?_)
                                  generalize wc.drew = w41 at BK1256 BK1257 HB hx1261_0 hx1261_1 hx1261_2 hx1263_0 hx1263_1 hx1263_2 hHeld ⊢
                                  refine pure_ (i := 0) (N := some 61) (v := ?_) (a' := ?_) #[true, false, false, false, false, false, false, false, false, false, false, false, false, false] rfl rfl (any_of HT_.out (by kernel_rfl)) (fun _ _ _ h => h) (Or.inl ⟨by rfl, ?_⟩) ?_ ?_
                                  rotate_left
                                  · intro w'
                                    go_simp
                                    with_reducible rfl
                                  rotate_left
                                  · simp only [Act.put, List.setIfInBounds_toArray, List.set_cons_zero, List.set_cons_succ, i64_w, i32_w]
                                    rfl
                                  refine pure_ (i := 1) (N := some 62) (v := ?_) (a' := ?_) #[true, true, false, false, false, false, false, false, false, false, false, false, false, false] rfl rfl (any_of HT_.out (by kernel_rfl)) (fun _ _ _ h => h) (Or.inl ⟨by rfl, ?_⟩) ?_ ?_
                                  rotate_left
                                  · intro w'
                                    go_simp
                                    with_reducible rfl
                                  rotate_left
                                  · simp only [Act.put, List.setIfInBounds_toArray, List.set_cons_zero, List.set_cons_succ, i64_w, i32_w]
                                    rfl
                                  refine pure_ (i := 2) (N := some 63) (v := ?_) (a' := ?_) #[true, true, true, false, false, false, false, false, false, false, false, false, false, false] rfl rfl (any_of HT_.out (by kernel_rfl)) (fun _ _ _ h => h) (Or.inl ⟨by rfl, ?_⟩) ?_ ?_
                                  rotate_left
                                  · intro w'
                                    go_simp
                                    with_reducible rfl
                                  rotate_left
                                  · simp only [Act.put, List.setIfInBounds_toArray, List.set_cons_zero, List.set_cons_succ, i64_w, i32_w]
                                    rfl
                                  refine take_ (i := 3) (N := some 64) (v := ?_) (a' := ?_) #[true, true, true, true, false, false, false, false, false, false, false, false, false, false] rfl rfl (take_ofW HT_.out HW_.out (by kernel_rfl)) (fun _ _ _ h => h) (Or.inl ⟨by rfl, ?_⟩) hHeld ?_ ?_
                                  rotate_left
                                  · rintro w' ⟨s0, s1, s2, s3, s4, s5, s6, s7, s8, s9, s10, s11⟩
                                    go_simp
                                    with_reducible rfl
                                  rotate_left
                                  · simp only [Act.put, List.setIfInBounds_toArray, List.set_cons_zero, List.set_cons_succ, i64_w, i32_w]
                                    rfl
                                  refine take_ (i := 4) (N := some 65) (v := ?_) (a' := ?_) #[true, true, true, true, true, false, false, false, false, false, false, false, false, false] rfl rfl (take_ofW HT_.out HW_.out (by kernel_rfl)) (fun _ _ _ h => h) (Or.inl ⟨by rfl, ?_⟩) hHeld ?_ ?_
                                  rotate_left
                                  · rintro w' ⟨s0, s1, s2, s3, s4, s5, s6, s7, s8, s9, s10, s11⟩
                                    go_simp
                                    with_reducible rfl
                                  rotate_left
                                  · simp only [Act.put, List.setIfInBounds_toArray, List.set_cons_zero, List.set_cons_succ, i64_w, i32_w]
                                    rfl
                                  refine one_ (i := 5) (N := some 66) #[true, true, true, true, true, true, false, false, false, false, false, false, false, false] rfl rfl (one_of HT_.out (by kernel_rfl)) (by decide) (fun K hK => ?_)
                                  refine goes_ Try.func64 (by kernel_rfl) rfl #[.agg #[.int .u8 ((rd_T39 l1 x12_2).f0), .int .i64 ((rd_T39 l1 x12_2).f1), .string ((rd_T39 l1 x12_2).f2)], .agg #[.int .u8 t1250, .int .i64 t1251, .string t1252]] (by rfl) rfl rfl (by (try simp only [List.map_toArray, List.map_cons, List.map_nil]); first | done | rfl | (simp only [List.length_drop, List.length_take]; rfl)) ?_
                                  with_reducible refine (tidelineref03_Less.calls ((rd_T39 l1 x12_2).f0) ((rd_T39 l1 x12_2).f1) ((rd_T39 l1 x12_2).f2) t1250 t1251 t1252 false _ A32.out).mono ?_
                                  rintro e w42 ⟨rfl, hb⟩
                                  refine ⟨_, rfl, ?_⟩
                                  have n0_ := Aside0.mk (blk_below (g := gb1256) (o := .cells #[.int .u8 t1250, .int .i64 t1251, .string t1252] 39 (0, 0)) (by (with_reducible repeat (first | refine blk_drewN ?_ _ | refine blk_drew ?_ | refine blk_alloc ?_ _)); exact BK1256.out) hb)
                                  have n1_ := Aside0.mk (blk_below (g := gb1257) (o := .cells #[.int .u8 t1253, .int .i64 t1254, .string t1255] 39 (0, 0)) (by (with_reducible repeat (first | refine blk_drewN ?_ _ | refine blk_drew ?_ | refine blk_alloc ?_ _)); exact BK1257.out) hb)
                                  have n2_ := Aside0.mk (below_step (by repeat (first | (with_reducible first | exact HB.out | apply below_alloc | apply pw_below_drewN | apply below_drew1 | refine below_set ?_ GE1256.out | refine below_set ?_ GE1257.out) | exact HB.out)) hb)
                                  clear BK1256
                                  clear BK1257
                                  clear HB
                                  have BK1256 := n0_
                                  have BK1257 := n1_
                                  have HB := n2_
                                  clear n0_ n1_ n2_
                                  (try clear hb)
                                  (try clear hb2)
                                  (try clear hk)
                                  (try clear hi)
                                  refine hK.out _ _ ⟨(blk_cell BK1256.out 0).trans rfl, (blk_cell BK1256.out 1).trans rfl, (blk_cell BK1256.out 2).trans rfl, (blk_cell BK1257.out 0).trans rfl, (blk_cell BK1257.out 1).trans rfl, (blk_cell BK1257.out 2).trans rfl, ((HB.out.cell (World.block_lt_of_cell? w _ hw1261_0)).trans hw1261_0), ((HB.out.cell (World.block_lt_of_cell? w _ hw1261_1)).trans hw1261_1), ((HB.out.cell (World.block_lt_of_cell? w _ hw1261_2)).trans hw1261_2), ((HB.out.cell (World.block_lt_of_cell? w _ hw1263_0)).trans hw1263_0), ((HB.out.cell (World.block_lt_of_cell? w _ hw1263_1)).trans hw1263_1), ((HB.out.cell (World.block_lt_of_cell? w _ hw1263_2)).trans hw1263_2)⟩ (fun hHeld => ?_)
                                  clear hK K
                                  refine norm_ (a' := ?_) ?_ ?_
                                  rotate_left
                                  · show Act.put _ (some 66) _ = _
                                    simp only [Act.put, List.setIfInBounds_toArray, List.set_cons_zero, List.set_cons_succ, i64_w, i32_w]
                                    rfl
                                  refine pure_ (i := 6) (N := some 67) (v := ?_) (a' := ?_) #[true, true, true, true, true, true, true, false, false, false, false, false, false, false] rfl rfl (any_of HT_.out (by kernel_rfl)) (fun _ _ _ h => h) (Or.inl ⟨by rfl, ?_⟩) ?_ ?_
                                  rotate_left
                                  · intro w'
                                    go_simp
                                    with_reducible rfl
                                  rotate_left
                                  · simp only [Act.put, List.setIfInBounds_toArray, List.set_cons_zero, List.set_cons_succ, i64_w, i32_w]
                                    rfl
                                  refine pure_ (i := 8) (N := some 69) (v := ?_) (a' := ?_) #[true, true, true, true, true, true, true, false, true, false, false, false, false, false] rfl rfl (any_of HT_.out (by kernel_rfl)) (fun _ _ _ h => h) (Or.inl ⟨by rfl, ?_⟩) ?_ ?_
                                  rotate_left
                                  · intro w'
                                    go_simp
                                    with_reducible rfl
                                  rotate_left
                                  · simp only [Act.put, List.setIfInBounds_toArray, List.set_cons_zero, List.set_cons_succ, i64_w, i32_w]
                                    rfl
                                  refine pure_ (i := 9) (N := some 70) (v := ?_) (a' := ?_) #[true, true, true, true, true, true, true, false, true, true, false, false, false, false] rfl rfl (any_of HT_.out (by kernel_rfl)) (fun _ _ _ h => h) (Or.inl ⟨by rfl, ?_⟩) ?_ ?_
                                  rotate_left
                                  · intro w'
                                    go_simp
                                    with_reducible rfl
                                  rotate_left
                                  · simp only [Act.put, List.setIfInBounds_toArray, List.set_cons_zero, List.set_cons_succ, i64_w, i32_w]
                                    rfl
                                  refine pure_ (i := 10) (N := some 71) (v := ?_) (a' := ?_) #[true, true, true, true, true, true, true, false, true, true, true, false, false, false] rfl rfl (any_of HT_.out (by kernel_rfl)) (fun _ _ _ h => h) (Or.inl ⟨by rfl, ?_⟩) ?_ ?_
                                  rotate_left
                                  · intro w'
                                    go_simp
                                    with_reducible rfl
                                  rotate_left
                                  · simp only [Act.put, List.setIfInBounds_toArray, List.set_cons_zero, List.set_cons_succ, i64_w, i32_w]
                                    rfl
                                  refine take_ (i := 7) (N := some 68) (v := ?_) (a' := ?_) #[true, true, true, true, true, true, true, true, true, true, true, false, false, false] rfl rfl (take_ofW HT_.out HW_.out (by kernel_rfl)) (fun _ _ _ h => h) (Or.inl ⟨by rfl, ?_⟩) hHeld ?_ ?_
                                  rotate_left
                                  · rintro w' ⟨s0, s1, s2, s3, s4, s5, s6, s7, s8, s9, s10, s11⟩
                                    go_simp
                                    with_reducible rfl
                                  rotate_left
                                  · simp only [Act.put, List.setIfInBounds_toArray, List.set_cons_zero, List.set_cons_succ, i64_w, i32_w]
                                    rfl
                                  refine take_ (i := 11) (N := some 72) (v := ?_) (a' := ?_) #[true, true, true, true, true, true, true, true, true, true, true, true, false, false] rfl rfl (take_ofW HT_.out HW_.out (by kernel_rfl)) (fun _ _ _ h => h) (Or.inl ⟨by rfl, ?_⟩) hHeld ?_ ?_
                                  rotate_left
                                  · rintro w' ⟨s0, s1, s2, s3, s4, s5, s6, s7, s8, s9, s10, s11⟩
                                    go_simp
                                    with_reducible rfl
                                  rotate_left
                                  · simp only [Act.put, List.setIfInBounds_toArray, List.set_cons_zero, List.set_cons_succ, i64_w, i32_w]
                                    rfl
                                  refine one_ (i := 12) (N := some 73) #[true, true, true, true, true, true, true, true, true, true, true, true, true, false] rfl rfl (one_of HT_.out (by kernel_rfl)) (by decide) (fun K hK => ?_)
                                  refine goes_ Try.func64 (by kernel_rfl) rfl #[.agg #[.int .u8 t1253, .int .i64 t1254, .string t1255], .agg #[.int .u8 ((rd_T39 l1 x12_2).f0), .int .i64 ((rd_T39 l1 x12_2).f1), .string ((rd_T39 l1 x12_2).f2)]] (by rfl) rfl rfl (by (try simp only [List.map_toArray, List.map_cons, List.map_nil]); first | done | rfl | (simp only [List.length_drop, List.length_take]; rfl)) ?_
                                  with_reducible refine (tidelineref03_Less.calls t1253 t1254 t1255 ((rd_T39 l1 x12_2).f0) ((rd_T39 l1 x12_2).f1) ((rd_T39 l1 x12_2).f2) false _ A36.out).mono ?_
                                  rintro e w43 ⟨rfl, hb⟩
                                  refine ⟨_, rfl, ?_⟩
                                  have n0_ := Aside0.mk (blk_below (g := gb1256) (o := .cells #[.int .u8 t1250, .int .i64 t1251, .string t1252] 39 (0, 0)) (by (with_reducible repeat (first | refine blk_drewN ?_ _ | refine blk_drew ?_ | refine blk_alloc ?_ _)); exact BK1256.out) hb)
                                  have n1_ := Aside0.mk (blk_below (g := gb1257) (o := .cells #[.int .u8 t1253, .int .i64 t1254, .string t1255] 39 (0, 0)) (by (with_reducible repeat (first | refine blk_drewN ?_ _ | refine blk_drew ?_ | refine blk_alloc ?_ _)); exact BK1257.out) hb)
                                  have n2_ := Aside0.mk (below_step (by repeat (first | (with_reducible first | exact HB.out | apply below_alloc | apply pw_below_drewN | apply below_drew1 | refine below_set ?_ GE1256.out | refine below_set ?_ GE1257.out) | exact HB.out)) hb)
                                  clear BK1256
                                  clear BK1257
                                  clear HB
                                  have BK1256 := n0_
                                  have BK1257 := n1_
                                  have HB := n2_
                                  clear n0_ n1_ n2_
                                  (try clear hb)
                                  (try clear hb2)
                                  (try clear hk)
                                  (try clear hi)
                                  refine hK.out _ _ ⟨(blk_cell BK1256.out 0).trans rfl, (blk_cell BK1256.out 1).trans rfl, (blk_cell BK1256.out 2).trans rfl, (blk_cell BK1257.out 0).trans rfl, (blk_cell BK1257.out 1).trans rfl, (blk_cell BK1257.out 2).trans rfl, ((HB.out.cell (World.block_lt_of_cell? w _ hw1261_0)).trans hw1261_0), ((HB.out.cell (World.block_lt_of_cell? w _ hw1261_1)).trans hw1261_1), ((HB.out.cell (World.block_lt_of_cell? w _ hw1261_2)).trans hw1261_2), ((HB.out.cell (World.block_lt_of_cell? w _ hw1263_0)).trans hw1263_0), ((HB.out.cell (World.block_lt_of_cell? w _ hw1263_1)).trans hw1263_1), ((HB.out.cell (World.block_lt_of_cell? w _ hw1263_2)).trans hw1263_2)⟩ (fun hHeld => ?_)
                                  clear hK K
                                  refine norm_ (a' := ?_) ?_ ?_
                                  rotate_left
                                  · show Act.put _ (some 73) _ = _
                                    simp only [Act.put, List.setIfInBounds_toArray, List.set_cons_zero, List.set_cons_succ, i64_w, i32_w]
                                    rfl
                                  refine pure_ (i := 13) (N := some 74) (v := ?_) (a' := ?_) #[true, true, true, true, true, true, true, true, true, true, true, true, true, true] rfl rfl (any_of HT_.out (by kernel_rfl)) (fun _ _ _ h => h) (Or.inl ⟨by rfl, ?_⟩) ?_ ?_
                                  rotate_left
                                  · intro w'
                                    go_simp
                                    with_reducible rfl
                                  rotate_left
                                  · simp only [Act.put, List.setIfInBounds_toArray, List.set_cons_zero, List.set_cons_succ, i64_w, i32_w]
                                    rfl
                                  refine done_ (done_of HT_.out (by kernel_rfl)) ?_
                                  try go_wp2
                                  go_roundg kj23
                                  case measure => have := HJ3.out; have := HK2.out; have := HJ19.out; have := HJ23.out; omega
                                  case rel => exact ⟨(x9_19), (x10_23), ((wrap64 (x11_2 + 1))), (wrap64 (x12_2 + 1)), (by first | rfl | (simp; done) | (simp [*]; done)), (by first | rfl | (simp; done) | (simp [*]; done)), (by first | rfl | (simp; done) | (simp [*]; done)), (by first | rfl | (simp; done) | (simp [*]; done)), H', ⟨by have := HJ3.out; have := HK2.out; have := HJ19.out; have := HJ23.out; omega⟩, ⟨by (with_reducible repeat (first | refine blk_drewN ?_ _ | refine blk_drew ?_ | refine blk_alloc ?_ _)); exact BK1256.out⟩, ⟨by (with_reducible repeat (first | refine blk_drewN ?_ _ | refine blk_drew ?_ | refine blk_alloc ?_ _)); exact BK1257.out⟩, ⟨by repeat (first | (with_reducible first | exact HB.out | apply below_alloc | apply pw_below_drewN | apply below_drew1 | refine below_set ?_ GE1256.out | refine below_set ?_ GE1257.out) | exact HB.out)⟩⟩
                            · rw [if_neg c31] at H
                              exact absurd H (by simp)
                          · rw [if_neg c30] at H
                            exact absurd H (by simp)
              · rw [if_neg c18] at H
                exact absurd H (by simp)
            · rw [if_neg c17] at H
              have c17b0 : decide (x12_2 < (l1.length : Int)) = false := decide_eq_false c17
              clear c17
              by_cases c44 : x11_2 = 0
              · rw [if_pos c44] at H
                have c44b0 : (x11_2 == 0) = true := beq_iff_eq.mpr c44
                have c44b1 : (x11_2 != 0) = false := bne_eq_false_iff_eq.mpr c44
                clear c44
                by_cases c45 : (t1250 == 0 && (t1251 == 0 && (t1252.toList == ([] : List UInt8)))) = true
                · rw [if_pos c45] at H
                  have c45b0 : (t1250 == 0 && (t1251 == 0 && (t1252.toList == ([] : List UInt8)))) = true := c45
                  (try (have c45b1 : decide (t1250 = 0 && (t1251 == 0 && (t1252.toList == ([] : List UInt8)))) = true := by simpa using c45))
                  (try (have c45b2 : (t1250 == 0 && (t1251 == 0 && (t1252.toList == ([] : List UInt8)))) = true := by simpa using c45))
                  have c45p : (t1250 = 0 ∧ t1251 = 0 ∧ t1252.toList = []) = True := eq_true (by simpa using c45)
                  clear c45
                  by_cases c46 : (t1253 == 0 && (t1254 == 0 && (t1255.toList == ([] : List UInt8)))) = true
                  · rw [if_pos c46] at H
                    have c46b0 : (t1253 == 0 && (t1254 == 0 && (t1255.toList == ([] : List UInt8)))) = true := c46
                    (try (have c46b1 : decide (t1253 = 0 && (t1254 == 0 && (t1255.toList == ([] : List UInt8)))) = true := by simpa using c46))
                    (try (have c46b2 : (t1253 == 0 && (t1254 == 0 && (t1255.toList == ([] : List UInt8)))) = true := by simpa using c46))
                    have c46p : (t1253 = 0 ∧ t1254 = 0 ∧ t1255.toList = []) = True := eq_true (by simpa using c46)
                    clear c46
                    replace H := Option.bind_eq_some_iff.mp H
                    obtain ⟨t1265, A470, H⟩ := H
                    replace H : (some t1265) = some r := H
                    have A47 := Aside0.mk A470
                    clear A470
                    obtain rfl := Option.some.inj H
                    have hnb48 := NB1256_1257.out
                    have hnc48 := NB1257_1256.out
                    have hcz49_0 : wr.cell? ⟨gb1256, 0, none⟩ = some (.int .u8 t1250) := (blk_cell BK1256.out 0).trans rfl
                    have hcz49_1 : wr.cell? ⟨gb1256, 1, none⟩ = some (.int .i64 t1251) := (blk_cell BK1256.out 1).trans rfl
                    have hcz49_2 : wr.cell? ⟨gb1256, 2, none⟩ = some (.string t1252) := (blk_cell BK1256.out 2).trans rfl
                    have hfz49_0 := blk_frozen BK1256.out 0
                    have hfz49_1 := blk_frozen BK1256.out 1
                    have hfz49_2 := blk_frozen BK1256.out 2
                    have hcz50_0 : wr.cell? ⟨gb1257, 0, none⟩ = some (.int .u8 t1253) := (blk_cell BK1257.out 0).trans rfl
                    have hcz50_1 : wr.cell? ⟨gb1257, 1, none⟩ = some (.int .i64 t1254) := (blk_cell BK1257.out 1).trans rfl
                    have hcz50_2 : wr.cell? ⟨gb1257, 2, none⟩ = some (.string t1255) := (blk_cell BK1257.out 2).trans rfl
                    have hfz50_0 := blk_frozen BK1257.out 0
                    have hfz50_1 := blk_frozen BK1257.out 1
                    have hfz50_2 := blk_frozen BK1257.out 2
                    go_wp2_with (first | (go_at_call 57; (with_reducible refine (tidelinelaw06_puts.calls  t1265 _ A47.out).mono ?_); rintro e w51 ⟨rfl, hb⟩; have n0_ := Aside0.mk (blk_below (g := gb1256) (o := .cells #[.int .u8 t1250, .int .i64 t1251, .string t1252] 39 (0, 0)) (by (with_reducible repeat (first | refine blk_drewN ?_ _ | refine blk_drew ?_ | refine blk_alloc ?_ _)); exact BK1256.out) hb); have n1_ := Aside0.mk (blk_below (g := gb1257) (o := .cells #[.int .u8 t1253, .int .i64 t1254, .string t1255] 39 (0, 0)) (by (with_reducible repeat (first | refine blk_drewN ?_ _ | refine blk_drew ?_ | refine blk_alloc ?_ _)); exact BK1257.out) hb); have n2_ := Aside0.mk (below_step (by repeat (first | (with_reducible first | exact HB.out | apply below_alloc | apply pw_below_drewN | apply below_drew1 | refine below_set ?_ GE1256.out | refine below_set ?_ GE1257.out) | exact HB.out)) hb); clear BK1256; clear BK1257; clear HB; have BK1256 := n0_; have BK1257 := n1_; have HB := n2_; clear n0_ n1_ n2_; (try clear hb); (try clear hb2); (try clear hk); (try clear hi)))
                    go_ret
                    exact ⟨by first | rfl | (simp [errW_none, errW_some] <;> rfl) | (simp [*, errW_none, errW_some] <;> rfl), by repeat (first | (with_reducible first | exact HB.out | apply below_alloc | apply pw_below_drewN | apply below_drew1 | refine below_set ?_ GE1256.out | refine below_set ?_ GE1257.out) | exact HB.out)⟩
                  · rw [if_neg c46] at H
                    have c46b0 : (t1253 == 0 && (t1254 == 0 && (t1255.toList == ([] : List UInt8)))) = false := by simpa using c46
                    (try (have c46b1 : decide (t1253 = 0 && (t1254 == 0 && (t1255.toList == ([] : List UInt8)))) = false := by simpa using c46))
                    (try (have c46b2 : (t1253 == 0 && (t1254 == 0 && (t1255.toList == ([] : List UInt8)))) = false := by simpa using c46))
                    (try (have c46b3 : ¬ (t1253 = 0 && (t1254 == 0 && (t1255.toList == ([] : List UInt8)))) := by simpa using c46))
                    have c46p : (t1253 = 0 ∧ t1254 = 0 ∧ t1255.toList = []) = False := eq_false (by simpa using c46)
                    clear c46
                    obtain rfl := Option.some.inj H
                    have hnb52 := NB1256_1257.out
                    have hnc52 := NB1257_1256.out
                    have hcz53_0 : wr.cell? ⟨gb1256, 0, none⟩ = some (.int .u8 t1250) := (blk_cell BK1256.out 0).trans rfl
                    have hcz53_1 : wr.cell? ⟨gb1256, 1, none⟩ = some (.int .i64 t1251) := (blk_cell BK1256.out 1).trans rfl
                    have hcz53_2 : wr.cell? ⟨gb1256, 2, none⟩ = some (.string t1252) := (blk_cell BK1256.out 2).trans rfl
                    have hfz53_0 := blk_frozen BK1256.out 0
                    have hfz53_1 := blk_frozen BK1256.out 1
                    have hfz53_2 := blk_frozen BK1256.out 2
                    have hcz54_0 : wr.cell? ⟨gb1257, 0, none⟩ = some (.int .u8 t1253) := (blk_cell BK1257.out 0).trans rfl
                    have hcz54_1 : wr.cell? ⟨gb1257, 1, none⟩ = some (.int .i64 t1254) := (blk_cell BK1257.out 1).trans rfl
                    have hcz54_2 : wr.cell? ⟨gb1257, 2, none⟩ = some (.string t1255) := (blk_cell BK1257.out 2).trans rfl
                    have hfz54_0 := blk_frozen BK1257.out 0
                    have hfz54_1 := blk_frozen BK1257.out 1
                    have hfz54_2 := blk_frozen BK1257.out 2
                    go_wp2
                    go_ret
                    exact ⟨by first | rfl | (simp [errW_none, errW_some] <;> rfl) | (simp [*, errW_none, errW_some] <;> rfl), by repeat (first | (with_reducible first | exact HB.out | apply below_alloc | apply pw_below_drewN | apply below_drew1 | refine below_set ?_ GE1256.out | refine below_set ?_ GE1257.out) | exact HB.out)⟩
                · rw [if_neg c45] at H
                  have c45b0 : (t1250 == 0 && (t1251 == 0 && (t1252.toList == ([] : List UInt8)))) = false := by simpa using c45
                  (try (have c45b1 : decide (t1250 = 0 && (t1251 == 0 && (t1252.toList == ([] : List UInt8)))) = false := by simpa using c45))
                  (try (have c45b2 : (t1250 == 0 && (t1251 == 0 && (t1252.toList == ([] : List UInt8)))) = false := by simpa using c45))
                  (try (have c45b3 : ¬ (t1250 = 0 && (t1251 == 0 && (t1252.toList == ([] : List UInt8)))) := by simpa using c45))
                  have c45p : (t1250 = 0 ∧ t1251 = 0 ∧ t1252.toList = []) = False := eq_false (by simpa using c45)
                  clear c45
                  obtain rfl := Option.some.inj H
                  have hnb55 := NB1256_1257.out
                  have hnc55 := NB1257_1256.out
                  have hcz56_0 : wr.cell? ⟨gb1256, 0, none⟩ = some (.int .u8 t1250) := (blk_cell BK1256.out 0).trans rfl
                  have hcz56_1 : wr.cell? ⟨gb1256, 1, none⟩ = some (.int .i64 t1251) := (blk_cell BK1256.out 1).trans rfl
                  have hcz56_2 : wr.cell? ⟨gb1256, 2, none⟩ = some (.string t1252) := (blk_cell BK1256.out 2).trans rfl
                  have hfz56_0 := blk_frozen BK1256.out 0
                  have hfz56_1 := blk_frozen BK1256.out 1
                  have hfz56_2 := blk_frozen BK1256.out 2
                  go_wp2
                  go_ret
                  exact ⟨by first | rfl | (simp [errW_none, errW_some] <;> rfl) | (simp [*, errW_none, errW_some] <;> rfl), by repeat (first | (with_reducible first | exact HB.out | apply below_alloc | apply pw_below_drewN | apply below_drew1 | refine below_set ?_ GE1256.out | refine below_set ?_ GE1257.out) | exact HB.out)⟩
              · rw [if_neg c44] at H
                have c44b0 : (x11_2 == 0) = false := beq_eq_false_iff_ne.mpr c44
                have c44b1 : (x11_2 != 0) = true := bne_iff_ne.mpr c44
                by_cases c57 : (wrap64 ((l1.length : Int) + 1)) = 0
                · rw [if_pos c57] at H
                  exact absurd H (by simp)
                · rw [if_neg c57] at H
                  have c57b0 : ((wrap64 ((l1.length : Int) + 1)) == 0) = false := beq_eq_false_iff_ne.mpr c57
                  have c57b1 : ((wrap64 ((l1.length : Int) + 1)) != 0) = true := bne_iff_ne.mpr c57
                  have HC58 := Aside0.mk H
                  clear H
                  go_upto_if 94 with (fail)
                  go_cut [13] (fun v13 wc => ∃ (kq : Nat) (x13_57 : Int), v13 = .int .i64 x13_57 ∧ Aside0 (tidelinelaw06_ColumnLies.j4 kq l1 x9_2 x10_2 x13_57 t1250 t1251 t1252 t1253 t1254 t1255 = some r) ∧ Aside0 (kq ≤ k2) ∧ Aside0 (wc.heap[gb1256]? = some (.cells #[.int .u8 t1250, .int .i64 t1251, .string t1252] 39 (0, 0))) ∧ Aside0 (wc.heap[gb1257]? = some (.cells #[.int .u8 t1253, .int .i64 t1254, .string t1255] 39 (0, 0))) ∧ Aside0 (Below w.heap.size w wc))
                  case first =>
                    have H := HC58.out
                    clear HC58
                    by_cases c59 : (Int.tmod a2 (wrap64 ((l1.length : Int) + 1))) < 0
                    · rw [if_pos c59] at H
                      have c59b0 : decide ((Int.tmod a2 (wrap64 ((l1.length : Int) + 1))) < 0) = true := decide_eq_true c59
                      clear c59
                      (first | rw [c59b0] | (simp only [i64_w, i32_w]; rw [c59b0]) | skip)
                      have H' := Aside0.mk H
                      clear H
                      go_wp2
                      go_meet
                      case rel => exact ⟨_, (wrap64 ((wrap64 ((Int.tmod a2 (wrap64 ((l1.length : Int) + 1))) + (l1.length : Int))) + 1)), (by first | rfl | (simp; done) | (simp [*]; done)), H', ⟨by have := HJ3.out; have := HK2.out; first | omega | exact Nat.le_refl _⟩, ⟨by (with_reducible repeat (first | refine blk_drewN ?_ _ | refine blk_drew ?_ | refine blk_alloc ?_ _)); exact BK1256.out⟩, ⟨by (with_reducible repeat (first | refine blk_drewN ?_ _ | refine blk_drew ?_ | refine blk_alloc ?_ _)); exact BK1257.out⟩, ⟨by repeat (first | (with_reducible first | exact HB.out | apply below_alloc | apply pw_below_drewN | apply below_drew1 | refine below_set ?_ GE1256.out | refine below_set ?_ GE1257.out) | exact HB.out)⟩⟩
                    · rw [if_neg c59] at H
                      have c59b0 : decide ((Int.tmod a2 (wrap64 ((l1.length : Int) + 1))) < 0) = false := decide_eq_false c59
                      clear c59
                      (first | rw [c59b0] | (simp only [i64_w, i32_w]; rw [c59b0]) | skip)
                      have H' := Aside0.mk H
                      clear H
                      go_wp2
                      go_meet
                      case rel => exact ⟨_, (Int.tmod a2 (wrap64 ((l1.length : Int) + 1))), (by first | rfl | (simp; done) | (simp [*]; done)), H', ⟨by have := HJ3.out; have := HK2.out; first | omega | exact Nat.le_refl _⟩, ⟨by (with_reducible repeat (first | refine blk_drewN ?_ _ | refine blk_drew ?_ | refine blk_alloc ?_ _)); exact BK1256.out⟩, ⟨by (with_reducible repeat (first | refine blk_drewN ?_ _ | refine blk_drew ?_ | refine blk_alloc ?_ _)); exact BK1257.out⟩, ⟨by repeat (first | (with_reducible first | exact HB.out | apply below_alloc | apply pw_below_drewN | apply below_drew1 | refine below_set ?_ GE1256.out | refine below_set ?_ GE1257.out) | exact HB.out)⟩⟩
                  case rest =>
                    clear HC58
                    try clear c1
                    try clear p1
                    try clear q1
                    try clear hx1
                    try clear p2
                    try clear c3
                    try clear c4
                    try clear c5
                    try clear c6
                    try clear p6
                    try clear p12
                    try clear q12
                    try clear hx12
                    try clear c17
                    try clear c17b0
                    try clear c18
                    try clear c30
                    try clear c31
                    try clear c33
                    try clear c37
                    try clear c44
                    try clear c44b0
                    try clear c44b1
                    try clear c45
                    try clear c45b0
                    try clear c45b1
                    try clear c45b2
                    try clear c46
                    try clear c46b0
                    try clear c46b1
                    try clear c46b2
                    try clear c48
                    try clear c52
                    try clear c55
                    try clear c57
                    try clear c57b0
                    try clear c57b1
                    try clear c59
                    try clear c59b0
                    try clear hcz49_0
                    try clear hcz49_1
                    try clear hcz49_2
                    try clear hcz50_0
                    try clear hcz50_1
                    try clear hcz50_2
                    try clear hcz53_0
                    try clear hcz53_1
                    try clear hcz53_2
                    try clear hcz54_0
                    try clear hcz54_1
                    try clear hcz54_2
                    try clear hcz56_0
                    try clear hcz56_1
                    try clear hcz56_2
                    try clear hfz49_0
                    try clear hfz49_1
                    try clear hfz49_2
                    try clear hfz50_0
                    try clear hfz50_1
                    try clear hfz50_2
                    try clear hfz53_0
                    try clear hfz53_1
                    try clear hfz53_2
                    try clear hfz54_0
                    try clear hfz54_1
                    try clear hfz54_2
                    try clear hfz56_0
                    try clear hfz56_1
                    try clear hfz56_2
                    try clear hx1261_0
                    try clear hx1261_1
                    try clear hx1261_2
                    try clear hx1263_0
                    try clear hx1263_1
                    try clear hx1263_2
                    try clear p1261
                    try clear p1263
                    try clear q1261
                    try clear q1263
                    obtain ⟨kq, x13_57, rfl, HA, HJ57, BK1256, BK1257, HB⟩ := hcut
                    cases kq with
                    | zero => exact absurd HA.out (by simp [tidelinelaw06_ColumnLies.j4])
                    | succ kj57 =>
                      have H := HA.out
                      clear HA
                      simp only [tidelinelaw06_ColumnLies.j4] at H
                      by_cases c60 : 0 ≤ x13_57
                      · rw [if_pos c60] at H
                        have c60b0 := eq_true c60
                        have c60b1 : decide (0 ≤ x13_57) = true := decide_eq_true c60
                        clear c60
                        by_cases c61 : x13_57 ≤ (l1.length : Int)
                        · rw [if_pos c61] at H
                          have c61b0 := eq_true c61
                          have c61b1 : decide (x13_57 ≤ (l1.length : Int)) = true := decide_eq_true c61
                          clear c61
                          obtain ⟨y1266, hy1266⟩ : ∃ y_ : List (S39), y_ = (l1.take (x13_57 : Int).toNat) := ⟨_, rfl⟩
                          replace H : ((column_Bounds.f kj57 y1266).bind fun bt1270 => (if x9_2 = true then (if x10_2 = true then (if bt1270.1 = 0 then ((tidelinelaw06_puts.f).bind fun t1278 => (some t1278)) else ((tidelineref03_Less.f bt1270.1 bt1270.2.1 bt1270.2.2.1 t1250 t1251 t1252).bind fun t1279 => (if t1279 = true then (some false) else ((tidelineref03_Less.f t1253 t1254 t1255 bt1270.2.2.2.1 bt1270.2.2.2.2.1 bt1270.2.2.2.2.2).bind fun t1280 => (if t1280 = true then (some false) else ((tidelinelaw06_puts.f).bind fun t1281 => (some t1281))))))) else (some false)) else (some false))) = some r := by first | (rw [hy1266]; with_reducible exact H) | (have H2_ := (Option.bind_some _ _).symm.trans H; rw [hy1266]; with_reducible exact H2_) | (have H2_ := (Option.bind_some _ _).symm.trans H; with_reducible exact H2_) | with_reducible exact H | (rw [hy1266]; exact H) | exact H
                          have Ny1266 := Aside0.mk hy1266
                          clear hy1266
                          replace H := Option.bind_eq_some_iff.mp H
                          obtain ⟨⟨t1270, t1271, t1272, t1273, t1274, t1275⟩, A620, H⟩ := H
                          replace H : (if x9_2 = true then (if x10_2 = true then (if t1270 = 0 then ((tidelinelaw06_puts.f).bind fun t1278 => (some t1278)) else ((tidelineref03_Less.f t1270 t1271 t1272 t1250 t1251 t1252).bind fun t1279 => (if t1279 = true then (some false) else ((tidelineref03_Less.f t1253 t1254 t1255 t1273 t1274 t1275).bind fun t1280 => (if t1280 = true then (some false) else ((tidelinelaw06_puts.f).bind fun t1281 => (some t1281))))))) else (some false)) else (some false)) = some r := H
                          have A62 := Aside0.mk A620
                          clear A620
                          by_cases c63 : x9_2 = true
                          · subst c63
                            have H1 : (if x10_2 = true then (if t1270 = 0 then ((tidelinelaw06_puts.f).bind fun t1278 => (some t1278)) else ((tidelineref03_Less.f t1270 t1271 t1272 t1250 t1251 t1252).bind fun t1279 => (if t1279 = true then (some false) else ((tidelineref03_Less.f t1253 t1254 t1255 t1273 t1274 t1275).bind fun t1280 => (if t1280 = true then (some false) else ((tidelinelaw06_puts.f).bind fun t1281 => (some t1281))))))) else (some false)) = some r := by rw [if_pos rfl] at H; exact H
                            clear H
                            have H := H1
                            clear H1
                            by_cases c64 : x10_2 = true
                            · subst c64
                              have H1 : (if t1270 = 0 then ((tidelinelaw06_puts.f).bind fun t1278 => (some t1278)) else ((tidelineref03_Less.f t1270 t1271 t1272 t1250 t1251 t1252).bind fun t1279 => (if t1279 = true then (some false) else ((tidelineref03_Less.f t1253 t1254 t1255 t1273 t1274 t1275).bind fun t1280 => (if t1280 = true then (some false) else ((tidelinelaw06_puts.f).bind fun t1281 => (some t1281))))))) = some r := by rw [if_pos rfl] at H; exact H
                              clear H
                              have H := H1
                              clear H1
                              by_cases c65 : t1270 = 0
                              · rw [if_pos c65] at H
                                have c65b0 : (t1270 == 0) = true := beq_iff_eq.mpr c65
                                have c65b1 : (t1270 != 0) = false := bne_eq_false_iff_eq.mpr c65
                                clear c65
                                replace H := Option.bind_eq_some_iff.mp H
                                obtain ⟨t1278, A660, H⟩ := H
                                replace H : (some t1278) = some r := H
                                have A66 := Aside0.mk A660
                                clear A660
                                obtain rfl := Option.some.inj H
                                have q67 : (x13_57 : Int) ≤ ((l1.length : Int) : Int) := of_decide_eq_true (by first | (with_reducible assumption) | assumption)
                                obtain ⟨i067, hi067, _, hsz67, _⟩ := info_parts info39
                                have hroom67 : l1.length ≤ c1 := HC1.out
                                have hC67 : Kd.C k39 _ A1 l1.length l1 := HR1.out
                                have hcut67 := Go.Proofs.YtlmcefhpnfoahaaW.PrintWords.cut_to (P := Try.prog) 23 39 .i64 Try.underlying23 hi067 A1 l1.length c1 x13_57 (of_decide_eq_true (by first | (with_reducible assumption) | assumption)) q67 hroom67
                                have hr67 := Kd.C_take (m := (x13_57 : Int).toNat) hC67 (by omega)
                                have hy67 : y1266.length = (x13_57 : Int).toNat := (by rw [Ny1266.out, List.length_take]; omega)
                                rw [← Ny1266.out] at hr67
                                rw [← hy67] at hcut67
                                have HR1269 := Aside0.mk hr67
                                have HC1269 := Aside0.mk (show y1266.length ≤ c1 from by omega)
                                clear hr67 hC67 hroom67 hi067 hsz67
                                have KY67 := Aside0.mk hy67
                                clear hy67
                                replace q67 := eq_true q67
                                go_wp2_with (first | ((with_reducible refine gate_callee (f := 62) rfl ?_); refine goesL_ (some 104) rfl rfl Try.func62 (by kernel_rfl) rfl #[.slice A1 y1266.length c1] rfl (by (try simp only [List.map_toArray, List.map_cons, List.map_nil]); first | done | rfl | (simp only [List.length_drop, List.length_take]; rfl)) ?_; (with_reducible refine (column_Bounds.calls kj57 _ _ y1266 t1270 t1271 t1272 t1273 t1274 t1275 _ ?side1 ?side2 A62.out).mono ?_); (case side1 => repeat (first | exact (Kd.C_below HR1269.out HB.out) | (with_reducible refine Kd.C_alloc ?_ _) | (with_reducible refine Kd.C_drewN ?_ _) | (with_reducible refine Kd.C_drew ?_))); (case side2 => exact HC1269.out); rintro e w68 ⟨rfl, hb⟩; refine ⟨_, rfl, ?_⟩; have n0_ := Aside0.mk (blk_below (g := gb1256) (o := .cells #[.int .u8 t1250, .int .i64 t1251, .string t1252] 39 (0, 0)) (by (with_reducible repeat (first | refine blk_drewN ?_ _ | refine blk_drew ?_ | refine blk_alloc ?_ _)); exact BK1256.out) hb); have n1_ := Aside0.mk (blk_below (g := gb1257) (o := .cells #[.int .u8 t1253, .int .i64 t1254, .string t1255] 39 (0, 0)) (by (with_reducible repeat (first | refine blk_drewN ?_ _ | refine blk_drew ?_ | refine blk_alloc ?_ _)); exact BK1257.out) hb); have n2_ := Aside0.mk (below_step (by repeat (first | (with_reducible first | exact HB.out | apply below_alloc | apply pw_below_drewN | apply below_drew1 | refine below_set ?_ GE1256.out | refine below_set ?_ GE1257.out) | exact HB.out)) hb); clear BK1256; clear BK1257; clear HB; have BK1256 := n0_; have BK1257 := n1_; have HB := n2_; clear n0_ n1_ n2_; (try clear hb); (try clear hb2); (try clear hk); (try clear hi)) | ((with_reducible refine gate_dst (N := 14) rfl ?_); refine box_event ?hg (N := 14) ?hd (cs := #[.int .u8 0, .int .i64 0, .string (⟨#[]⟩ : ByteArray)]) (t := 39) ?hr ?_; (case hd => rfl); (case hg => rfl); (case hr => first | (go_simp; done) | (go_simp; rfl)); intro gb1276 hg w69 hbox hb; have n0_ := Aside0.mk (blk_below (g := gb1256) (o := .cells #[.int .u8 t1250, .int .i64 t1251, .string t1252] 39 (0, 0)) (by (with_reducible repeat (first | refine blk_drewN ?_ _ | refine blk_drew ?_ | refine blk_alloc ?_ _)); exact BK1256.out) hb); have n1_ := Aside0.mk (blk_below (g := gb1257) (o := .cells #[.int .u8 t1253, .int .i64 t1254, .string t1255] 39 (0, 0)) (by (with_reducible repeat (first | refine blk_drewN ?_ _ | refine blk_drew ?_ | refine blk_alloc ?_ _)); exact BK1257.out) hb); have n2_ := Aside0.mk (below_step (by repeat (first | (with_reducible first | exact HB.out | apply below_alloc | apply pw_below_drewN | apply below_drew1 | refine below_set ?_ GE1256.out | refine below_set ?_ GE1257.out) | exact HB.out)) hb); have n3_ := Aside0.mk (hbox); have n4_ := Aside0.mk ((by rw [hg]; exact (below_size (by repeat (first | (with_reducible first | exact HB.out | apply below_alloc | apply pw_below_drewN | apply below_drew1 | refine below_set ?_ GE1256.out | refine below_set ?_ GE1257.out) | exact HB.out))) : w.heap.size ≤ gb1276)); have n5_ := Aside0.mk ((by rw [hg]; exact (below_size (by repeat (first | (with_reducible first | exact HB.out | apply below_alloc | apply pw_below_drewN | apply below_drew1 | refine below_set ?_ GE1256.out | refine below_set ?_ GE1257.out) | exact HB.out))) : w.heap.size ≤ gb1276)); have n6_ := Aside0.mk ((by rw [hg]; exact Nat.ne_of_lt (blk_lt (g := gb1256) (o := .cells #[.int .u8 t1250, .int .i64 t1251, .string t1252] 39 (0, 0)) (by (with_reducible repeat (first | refine blk_drewN ?_ _ | refine blk_drew ?_ | refine blk_alloc ?_ _)); exact BK1256.out)) : gb1256 ≠ gb1276)); have n7_ := Aside0.mk ((by rw [hg]; exact Nat.ne_of_gt (blk_lt (g := gb1256) (o := .cells #[.int .u8 t1250, .int .i64 t1251, .string t1252] 39 (0, 0)) (by (with_reducible repeat (first | refine blk_drewN ?_ _ | refine blk_drew ?_ | refine blk_alloc ?_ _)); exact BK1256.out)) : gb1276 ≠ gb1256)); have n8_ := Aside0.mk ((by rw [hg]; exact Nat.ne_of_lt (blk_lt (g := gb1257) (o := .cells #[.int .u8 t1253, .int .i64 t1254, .string t1255] 39 (0, 0)) (by (with_reducible repeat (first | refine blk_drewN ?_ _ | refine blk_drew ?_ | refine blk_alloc ?_ _)); exact BK1257.out)) : gb1257 ≠ gb1276)); have n9_ := Aside0.mk ((by rw [hg]; exact Nat.ne_of_gt (blk_lt (g := gb1257) (o := .cells #[.int .u8 t1253, .int .i64 t1254, .string t1255] 39 (0, 0)) (by (with_reducible repeat (first | refine blk_drewN ?_ _ | refine blk_drew ?_ | refine blk_alloc ?_ _)); exact BK1257.out)) : gb1276 ≠ gb1257)); clear BK1256; clear BK1257; clear HB; have BK1256 := n0_; have BK1257 := n1_; have HB := n2_; have BK1276 := n3_; have GW1276 := n4_; have GE1276 := n5_; have NB1256_1276 := n6_; have NB1276_1256 := n7_; have NB1257_1276 := n8_; have NB1276_1257 := n9_; clear n0_ n1_ n2_ n3_ n4_ n5_ n6_ n7_ n8_ n9_; clear hb hbox hg) | ((with_reducible refine gate_dst (N := 15) rfl ?_); refine box_event ?hg (N := 15) ?hd (cs := #[.int .u8 0, .int .i64 0, .string (⟨#[]⟩ : ByteArray)]) (t := 39) ?hr ?_; (case hd => rfl); (case hg => rfl); (case hr => first | (go_simp; done) | (go_simp; rfl)); intro gb1277 hg w70 hbox hb; have n0_ := Aside0.mk (blk_below (g := gb1256) (o := .cells #[.int .u8 t1250, .int .i64 t1251, .string t1252] 39 (0, 0)) (by (with_reducible repeat (first | refine blk_drewN ?_ _ | refine blk_drew ?_ | refine blk_alloc ?_ _)); exact BK1256.out) hb); have n1_ := Aside0.mk (blk_below (g := gb1257) (o := .cells #[.int .u8 t1253, .int .i64 t1254, .string t1255] 39 (0, 0)) (by (with_reducible repeat (first | refine blk_drewN ?_ _ | refine blk_drew ?_ | refine blk_alloc ?_ _)); exact BK1257.out) hb); have n2_ := Aside0.mk (blk_below (g := gb1276) (o := .cells #[.int .u8 0, .int .i64 0, .string (⟨#[]⟩ : ByteArray)] 39 (0, 0)) (by (with_reducible repeat (first | refine blk_drewN ?_ _ | refine blk_drew ?_ | refine blk_alloc ?_ _)); exact BK1276.out) hb); have n3_ := Aside0.mk (below_step (by repeat (first | (with_reducible first | exact HB.out | apply below_alloc | apply pw_below_drewN | apply below_drew1 | refine below_set ?_ GE1256.out | refine below_set ?_ GE1257.out | refine below_set ?_ GE1276.out) | exact HB.out)) hb); have n4_ := Aside0.mk (hbox); have n5_ := Aside0.mk ((by rw [hg]; exact (below_size (by repeat (first | (with_reducible first | exact HB.out | apply below_alloc | apply pw_below_drewN | apply below_drew1 | refine below_set ?_ GE1256.out | refine below_set ?_ GE1257.out | refine below_set ?_ GE1276.out) | exact HB.out))) : w.heap.size ≤ gb1277)); have n6_ := Aside0.mk ((by rw [hg]; exact (below_size (by repeat (first | (with_reducible first | exact HB.out | apply below_alloc | apply pw_below_drewN | apply below_drew1 | refine below_set ?_ GE1256.out | refine below_set ?_ GE1257.out | refine below_set ?_ GE1276.out) | exact HB.out))) : w.heap.size ≤ gb1277)); have n7_ := Aside0.mk ((by rw [hg]; exact Nat.ne_of_lt (blk_lt (g := gb1256) (o := .cells #[.int .u8 t1250, .int .i64 t1251, .string t1252] 39 (0, 0)) (by (with_reducible repeat (first | refine blk_drewN ?_ _ | refine blk_drew ?_ | refine blk_alloc ?_ _)); exact BK1256.out)) : gb1256 ≠ gb1277)); have n8_ := Aside0.mk ((by rw [hg]; exact Nat.ne_of_gt (blk_lt (g := gb1256) (o := .cells #[.int .u8 t1250, .int .i64 t1251, .string t1252] 39 (0, 0)) (by (with_reducible repeat (first | refine blk_drewN ?_ _ | refine blk_drew ?_ | refine blk_alloc ?_ _)); exact BK1256.out)) : gb1277 ≠ gb1256)); have n9_ := Aside0.mk ((by rw [hg]; exact Nat.ne_of_lt (blk_lt (g := gb1257) (o := .cells #[.int .u8 t1253, .int .i64 t1254, .string t1255] 39 (0, 0)) (by (with_reducible repeat (first | refine blk_drewN ?_ _ | refine blk_drew ?_ | refine blk_alloc ?_ _)); exact BK1257.out)) : gb1257 ≠ gb1277)); have n10_ := Aside0.mk ((by rw [hg]; exact Nat.ne_of_gt (blk_lt (g := gb1257) (o := .cells #[.int .u8 t1253, .int .i64 t1254, .string t1255] 39 (0, 0)) (by (with_reducible repeat (first | refine blk_drewN ?_ _ | refine blk_drew ?_ | refine blk_alloc ?_ _)); exact BK1257.out)) : gb1277 ≠ gb1257)); have n11_ := Aside0.mk ((by rw [hg]; exact Nat.ne_of_lt (blk_lt (g := gb1276) (o := .cells #[.int .u8 0, .int .i64 0, .string (⟨#[]⟩ : ByteArray)] 39 (0, 0)) (by (with_reducible repeat (first | refine blk_drewN ?_ _ | refine blk_drew ?_ | refine blk_alloc ?_ _)); exact BK1276.out)) : gb1276 ≠ gb1277)); have n12_ := Aside0.mk ((by rw [hg]; exact Nat.ne_of_gt (blk_lt (g := gb1276) (o := .cells #[.int .u8 0, .int .i64 0, .string (⟨#[]⟩ : ByteArray)] 39 (0, 0)) (by (with_reducible repeat (first | refine blk_drewN ?_ _ | refine blk_drew ?_ | refine blk_alloc ?_ _)); exact BK1276.out)) : gb1277 ≠ gb1276)); clear BK1256; clear BK1257; clear BK1276; clear HB; have BK1256 := n0_; have BK1257 := n1_; have BK1276 := n2_; have HB := n3_; have BK1277 := n4_; have GW1277 := n5_; have GE1277 := n6_; have NB1256_1277 := n7_; have NB1277_1256 := n8_; have NB1257_1277 := n9_; have NB1277_1257 := n10_; have NB1276_1277 := n11_; have NB1277_1276 := n12_; clear n0_ n1_ n2_ n3_ n4_ n5_ n6_ n7_ n8_ n9_ n10_ n11_ n12_; clear hb hbox hg; have hnb71 := NB1276_1256.out; have hnc71 := NB1256_1276.out; have hnb72 := NB1276_1257.out; have hnc72 := NB1257_1276.out; have hnb73 := NB1276_1277.out; have hnc73 := NB1277_1276.out; have hcz74_0 : w70.cell? ⟨gb1276, 0, none⟩ = some (.int .u8 0) := (blk_cell BK1276.out 0).trans rfl; have hcz74_1 : w70.cell? ⟨gb1276, 1, none⟩ = some (.int .i64 0) := (blk_cell BK1276.out 1).trans rfl; have hcz74_2 : w70.cell? ⟨gb1276, 2, none⟩ = some (.string (⟨#[]⟩ : ByteArray)) := (blk_cell BK1276.out 2).trans rfl; have hfz74_0 := blk_frozen BK1276.out 0; have hfz74_1 := blk_frozen BK1276.out 1; have hfz74_2 := blk_frozen BK1276.out 2; have hnb75 := NB1277_1256.out; have hnc75 := NB1256_1277.out; have hnb76 := NB1277_1257.out; have hnc76 := NB1257_1277.out; have hcz77_0 : w70.cell? ⟨gb1277, 0, none⟩ = some (.int .u8 0) := (blk_cell BK1277.out 0).trans rfl; have hcz77_1 : w70.cell? ⟨gb1277, 1, none⟩ = some (.int .i64 0) := (blk_cell BK1277.out 1).trans rfl; have hcz77_2 : w70.cell? ⟨gb1277, 2, none⟩ = some (.string (⟨#[]⟩ : ByteArray)) := (blk_cell BK1277.out 2).trans rfl; have hfz77_0 := blk_frozen BK1277.out 0; have hfz77_1 := blk_frozen BK1277.out 1; have hfz77_2 := blk_frozen BK1277.out 2) | (go_at_call 57; (with_reducible refine (tidelinelaw06_puts.calls  t1278 _ A66.out).mono ?_); rintro e w78 ⟨rfl, hb⟩; have n0_ := Aside0.mk (blk_below (g := gb1256) (o := .cells #[.int .u8 t1250, .int .i64 t1251, .string t1252] 39 (0, 0)) (by (with_reducible repeat (first | refine blk_drewN ?_ _ | refine blk_drew ?_ | refine blk_alloc ?_ _)); refine blk_far ?_ NB1256_1277.out _; (with_reducible repeat (first | refine blk_drewN ?_ _ | refine blk_drew ?_ | refine blk_alloc ?_ _)); refine blk_far ?_ NB1256_1277.out _; (with_reducible repeat (first | refine blk_drewN ?_ _ | refine blk_drew ?_ | refine blk_alloc ?_ _)); refine blk_far ?_ NB1256_1277.out _; (with_reducible repeat (first | refine blk_drewN ?_ _ | refine blk_drew ?_ | refine blk_alloc ?_ _)); refine blk_far ?_ NB1256_1276.out _; (with_reducible repeat (first | refine blk_drewN ?_ _ | refine blk_drew ?_ | refine blk_alloc ?_ _)); refine blk_far ?_ NB1256_1276.out _; (with_reducible repeat (first | refine blk_drewN ?_ _ | refine blk_drew ?_ | refine blk_alloc ?_ _)); refine blk_far ?_ NB1256_1276.out _; (with_reducible repeat (first | refine blk_drewN ?_ _ | refine blk_drew ?_ | refine blk_alloc ?_ _)); exact BK1256.out) hb); have n1_ := Aside0.mk (blk_below (g := gb1257) (o := .cells #[.int .u8 t1253, .int .i64 t1254, .string t1255] 39 (0, 0)) (by (with_reducible repeat (first | refine blk_drewN ?_ _ | refine blk_drew ?_ | refine blk_alloc ?_ _)); refine blk_far ?_ NB1257_1277.out _; (with_reducible repeat (first | refine blk_drewN ?_ _ | refine blk_drew ?_ | refine blk_alloc ?_ _)); refine blk_far ?_ NB1257_1277.out _; (with_reducible repeat (first | refine blk_drewN ?_ _ | refine blk_drew ?_ | refine blk_alloc ?_ _)); refine blk_far ?_ NB1257_1277.out _; (with_reducible repeat (first | refine blk_drewN ?_ _ | refine blk_drew ?_ | refine blk_alloc ?_ _)); refine blk_far ?_ NB1257_1276.out _; (with_reducible repeat (first | refine blk_drewN ?_ _ | refine blk_drew ?_ | refine blk_alloc ?_ _)); refine blk_far ?_ NB1257_1276.out _; (with_reducible repeat (first | refine blk_drewN ?_ _ | refine blk_drew ?_ | refine blk_alloc ?_ _)); refine blk_far ?_ NB1257_1276.out _; (with_reducible repeat (first | refine blk_drewN ?_ _ | refine blk_drew ?_ | refine blk_alloc ?_ _)); exact BK1257.out) hb); have n2_ := Aside0.mk (blk_below (g := gb1276) (o := .cells #[.int .u8 t1270, .int .i64 t1271, .string t1272] 39 (0, 0)) (by (with_reducible repeat (first | refine blk_drewN ?_ _ | refine blk_drew ?_ | refine blk_alloc ?_ _)); refine blk_far ?_ NB1276_1277.out _; (with_reducible repeat (first | refine blk_drewN ?_ _ | refine blk_drew ?_ | refine blk_alloc ?_ _)); refine blk_far ?_ NB1276_1277.out _; (with_reducible repeat (first | refine blk_drewN ?_ _ | refine blk_drew ?_ | refine blk_alloc ?_ _)); refine blk_far ?_ NB1276_1277.out _; (with_reducible repeat (first | refine blk_drewN ?_ _ | refine blk_drew ?_ | refine blk_alloc ?_ _)); refine blk_put (cs := #[.int .u8 t1270, .int .i64 t1271, .string (⟨#[]⟩ : ByteArray)]) ?_ 2 _ rfl; (with_reducible repeat (first | refine blk_drewN ?_ _ | refine blk_drew ?_ | refine blk_alloc ?_ _)); refine blk_put (cs := #[.int .u8 t1270, .int .i64 0, .string (⟨#[]⟩ : ByteArray)]) ?_ 1 _ rfl; (with_reducible repeat (first | refine blk_drewN ?_ _ | refine blk_drew ?_ | refine blk_alloc ?_ _)); refine blk_put (cs := #[.int .u8 0, .int .i64 0, .string (⟨#[]⟩ : ByteArray)]) ?_ 0 _ rfl; (with_reducible repeat (first | refine blk_drewN ?_ _ | refine blk_drew ?_ | refine blk_alloc ?_ _)); exact BK1276.out) hb); have n3_ := Aside0.mk (blk_below (g := gb1277) (o := .cells #[.int .u8 t1273, .int .i64 t1274, .string t1275] 39 (0, 0)) (by (with_reducible repeat (first | refine blk_drewN ?_ _ | refine blk_drew ?_ | refine blk_alloc ?_ _)); refine blk_put (cs := #[.int .u8 t1273, .int .i64 t1274, .string (⟨#[]⟩ : ByteArray)]) ?_ 2 _ rfl; (with_reducible repeat (first | refine blk_drewN ?_ _ | refine blk_drew ?_ | refine blk_alloc ?_ _)); refine blk_put (cs := #[.int .u8 t1273, .int .i64 0, .string (⟨#[]⟩ : ByteArray)]) ?_ 1 _ rfl; (with_reducible repeat (first | refine blk_drewN ?_ _ | refine blk_drew ?_ | refine blk_alloc ?_ _)); refine blk_put (cs := #[.int .u8 0, .int .i64 0, .string (⟨#[]⟩ : ByteArray)]) ?_ 0 _ rfl; (with_reducible repeat (first | refine blk_drewN ?_ _ | refine blk_drew ?_ | refine blk_alloc ?_ _)); refine blk_far ?_ NB1277_1276.out _; (with_reducible repeat (first | refine blk_drewN ?_ _ | refine blk_drew ?_ | refine blk_alloc ?_ _)); refine blk_far ?_ NB1277_1276.out _; (with_reducible repeat (first | refine blk_drewN ?_ _ | refine blk_drew ?_ | refine blk_alloc ?_ _)); refine blk_far ?_ NB1277_1276.out _; (with_reducible repeat (first | refine blk_drewN ?_ _ | refine blk_drew ?_ | refine blk_alloc ?_ _)); exact BK1277.out) hb); have n4_ := Aside0.mk (below_step (by repeat (first | (with_reducible first | exact HB.out | apply below_alloc | apply pw_below_drewN | apply below_drew1 | refine below_set ?_ GE1256.out | refine below_set ?_ GE1257.out | refine below_set ?_ GE1276.out | refine below_set ?_ GE1277.out) | exact HB.out)) hb); clear BK1256; clear BK1257; clear BK1276; clear BK1277; clear HB; have BK1256 := n0_; have BK1257 := n1_; have BK1276 := n2_; have BK1277 := n3_; have HB := n4_; clear n0_ n1_ n2_ n3_ n4_; (try clear hb); (try clear hb2); (try clear hk); (try clear hi)))
                                go_ret
                                exact ⟨by first | rfl | (simp [errW_none, errW_some] <;> rfl) | (simp [*, errW_none, errW_some] <;> rfl), by repeat (first | (with_reducible first | exact HB.out | apply below_alloc | apply pw_below_drewN | apply below_drew1 | refine below_set ?_ GE1256.out | refine below_set ?_ GE1257.out | refine below_set ?_ GE1276.out | refine below_set ?_ GE1277.out) | exact HB.out)⟩
                              · rw [if_neg c65] at H
                                have c65b0 : (t1270 == 0) = false := beq_eq_false_iff_ne.mpr c65
                                have c65b1 : (t1270 != 0) = true := bne_iff_ne.mpr c65
                                replace H := Option.bind_eq_some_iff.mp H
                                obtain ⟨t1279, A790, H⟩ := H
                                replace H : (if t1279 = true then (some false) else ((tidelineref03_Less.f t1253 t1254 t1255 t1273 t1274 t1275).bind fun t1280 => (if t1280 = true then (some false) else ((tidelinelaw06_puts.f).bind fun t1281 => (some t1281))))) = some r := H
                                have A79 := Aside0.mk A790
                                clear A790
                                by_cases c80 : t1279 = true
                                · subst c80
                                  have H1 : (some false) = some r := by rw [if_pos rfl] at H; exact H
                                  clear H
                                  have H := H1
                                  clear H1
                                  obtain rfl := Option.some.inj H
                                  have q81 : (x13_57 : Int) ≤ ((l1.length : Int) : Int) := of_decide_eq_true (by first | (with_reducible assumption) | assumption)
                                  obtain ⟨i081, hi081, _, hsz81, _⟩ := info_parts info39
                                  have hroom81 : l1.length ≤ c1 := HC1.out
                                  have hC81 : Kd.C k39 _ A1 l1.length l1 := HR1.out
                                  have hcut81 := Go.Proofs.YtlmcefhpnfoahaaW.PrintWords.cut_to (P := Try.prog) 23 39 .i64 Try.underlying23 hi081 A1 l1.length c1 x13_57 (of_decide_eq_true (by first | (with_reducible assumption) | assumption)) q81 hroom81
                                  have hr81 := Kd.C_take (m := (x13_57 : Int).toNat) hC81 (by omega)
                                  have hy81 : y1266.length = (x13_57 : Int).toNat := (by rw [Ny1266.out, List.length_take]; omega)
                                  rw [← Ny1266.out] at hr81
                                  rw [← hy81] at hcut81
                                  have HR1269 := Aside0.mk hr81
                                  have HC1269 := Aside0.mk (show y1266.length ≤ c1 from by omega)
                                  clear hr81 hC81 hroom81 hi081 hsz81
                                  have KY81 := Aside0.mk hy81
                                  clear hy81
                                  replace q81 := eq_true q81
                                  go_wp2_with (first | ((with_reducible refine gate_callee (f := 62) rfl ?_); refine goesL_ (some 104) rfl rfl Try.func62 (by kernel_rfl) rfl #[.slice A1 y1266.length c1] rfl (by (try simp only [List.map_toArray, List.map_cons, List.map_nil]); first | done | rfl | (simp only [List.length_drop, List.length_take]; rfl)) ?_; (with_reducible refine (column_Bounds.calls kj57 _ _ y1266 t1270 t1271 t1272 t1273 t1274 t1275 _ ?side1 ?side2 A62.out).mono ?_); (case side1 => repeat (first | exact (Kd.C_below HR1269.out HB.out) | (with_reducible refine Kd.C_alloc ?_ _) | (with_reducible refine Kd.C_drewN ?_ _) | (with_reducible refine Kd.C_drew ?_))); (case side2 => exact HC1269.out); rintro e w82 ⟨rfl, hb⟩; refine ⟨_, rfl, ?_⟩; have n0_ := Aside0.mk (blk_below (g := gb1256) (o := .cells #[.int .u8 t1250, .int .i64 t1251, .string t1252] 39 (0, 0)) (by (with_reducible repeat (first | refine blk_drewN ?_ _ | refine blk_drew ?_ | refine blk_alloc ?_ _)); exact BK1256.out) hb); have n1_ := Aside0.mk (blk_below (g := gb1257) (o := .cells #[.int .u8 t1253, .int .i64 t1254, .string t1255] 39 (0, 0)) (by (with_reducible repeat (first | refine blk_drewN ?_ _ | refine blk_drew ?_ | refine blk_alloc ?_ _)); exact BK1257.out) hb); have n2_ := Aside0.mk (below_step (by repeat (first | (with_reducible first | exact HB.out | apply below_alloc | apply pw_below_drewN | apply below_drew1 | refine below_set ?_ GE1256.out | refine below_set ?_ GE1257.out) | exact HB.out)) hb); clear BK1256; clear BK1257; clear HB; have BK1256 := n0_; have BK1257 := n1_; have HB := n2_; clear n0_ n1_ n2_; (try clear hb); (try clear hb2); (try clear hk); (try clear hi)) | ((with_reducible refine gate_dst (N := 14) rfl ?_); refine box_event ?hg (N := 14) ?hd (cs := #[.int .u8 0, .int .i64 0, .string (⟨#[]⟩ : ByteArray)]) (t := 39) ?hr ?_; (case hd => rfl); (case hg => rfl); (case hr => first | (go_simp; done) | (go_simp; rfl)); intro gb1276 hg w83 hbox hb; have n0_ := Aside0.mk (blk_below (g := gb1256) (o := .cells #[.int .u8 t1250, .int .i64 t1251, .string t1252] 39 (0, 0)) (by (with_reducible repeat (first | refine blk_drewN ?_ _ | refine blk_drew ?_ | refine blk_alloc ?_ _)); exact BK1256.out) hb); have n1_ := Aside0.mk (blk_below (g := gb1257) (o := .cells #[.int .u8 t1253, .int .i64 t1254, .string t1255] 39 (0, 0)) (by (with_reducible repeat (first | refine blk_drewN ?_ _ | refine blk_drew ?_ | refine blk_alloc ?_ _)); exact BK1257.out) hb); have n2_ := Aside0.mk (below_step (by repeat (first | (with_reducible first | exact HB.out | apply below_alloc | apply pw_below_drewN | apply below_drew1 | refine below_set ?_ GE1256.out | refine below_set ?_ GE1257.out) | exact HB.out)) hb); have n3_ := Aside0.mk (hbox); have n4_ := Aside0.mk ((by rw [hg]; exact (below_size (by repeat (first | (with_reducible first | exact HB.out | apply below_alloc | apply pw_below_drewN | apply below_drew1 | refine below_set ?_ GE1256.out | refine below_set ?_ GE1257.out) | exact HB.out))) : w.heap.size ≤ gb1276)); have n5_ := Aside0.mk ((by rw [hg]; exact (below_size (by repeat (first | (with_reducible first | exact HB.out | apply below_alloc | apply pw_below_drewN | apply below_drew1 | refine below_set ?_ GE1256.out | refine below_set ?_ GE1257.out) | exact HB.out))) : w.heap.size ≤ gb1276)); have n6_ := Aside0.mk ((by rw [hg]; exact Nat.ne_of_lt (blk_lt (g := gb1256) (o := .cells #[.int .u8 t1250, .int .i64 t1251, .string t1252] 39 (0, 0)) (by (with_reducible repeat (first | refine blk_drewN ?_ _ | refine blk_drew ?_ | refine blk_alloc ?_ _)); exact BK1256.out)) : gb1256 ≠ gb1276)); have n7_ := Aside0.mk ((by rw [hg]; exact Nat.ne_of_gt (blk_lt (g := gb1256) (o := .cells #[.int .u8 t1250, .int .i64 t1251, .string t1252] 39 (0, 0)) (by (with_reducible repeat (first | refine blk_drewN ?_ _ | refine blk_drew ?_ | refine blk_alloc ?_ _)); exact BK1256.out)) : gb1276 ≠ gb1256)); have n8_ := Aside0.mk ((by rw [hg]; exact Nat.ne_of_lt (blk_lt (g := gb1257) (o := .cells #[.int .u8 t1253, .int .i64 t1254, .string t1255] 39 (0, 0)) (by (with_reducible repeat (first | refine blk_drewN ?_ _ | refine blk_drew ?_ | refine blk_alloc ?_ _)); exact BK1257.out)) : gb1257 ≠ gb1276)); have n9_ := Aside0.mk ((by rw [hg]; exact Nat.ne_of_gt (blk_lt (g := gb1257) (o := .cells #[.int .u8 t1253, .int .i64 t1254, .string t1255] 39 (0, 0)) (by (with_reducible repeat (first | refine blk_drewN ?_ _ | refine blk_drew ?_ | refine blk_alloc ?_ _)); exact BK1257.out)) : gb1276 ≠ gb1257)); clear BK1256; clear BK1257; clear HB; have BK1256 := n0_; have BK1257 := n1_; have HB := n2_; have BK1276 := n3_; have GW1276 := n4_; have GE1276 := n5_; have NB1256_1276 := n6_; have NB1276_1256 := n7_; have NB1257_1276 := n8_; have NB1276_1257 := n9_; clear n0_ n1_ n2_ n3_ n4_ n5_ n6_ n7_ n8_ n9_; clear hb hbox hg) | ((with_reducible refine gate_dst (N := 15) rfl ?_); refine box_event ?hg (N := 15) ?hd (cs := #[.int .u8 0, .int .i64 0, .string (⟨#[]⟩ : ByteArray)]) (t := 39) ?hr ?_; (case hd => rfl); (case hg => rfl); (case hr => first | (go_simp; done) | (go_simp; rfl)); intro gb1277 hg w84 hbox hb; have n0_ := Aside0.mk (blk_below (g := gb1256) (o := .cells #[.int .u8 t1250, .int .i64 t1251, .string t1252] 39 (0, 0)) (by (with_reducible repeat (first | refine blk_drewN ?_ _ | refine blk_drew ?_ | refine blk_alloc ?_ _)); exact BK1256.out) hb); have n1_ := Aside0.mk (blk_below (g := gb1257) (o := .cells #[.int .u8 t1253, .int .i64 t1254, .string t1255] 39 (0, 0)) (by (with_reducible repeat (first | refine blk_drewN ?_ _ | refine blk_drew ?_ | refine blk_alloc ?_ _)); exact BK1257.out) hb); have n2_ := Aside0.mk (blk_below (g := gb1276) (o := .cells #[.int .u8 0, .int .i64 0, .string (⟨#[]⟩ : ByteArray)] 39 (0, 0)) (by (with_reducible repeat (first | refine blk_drewN ?_ _ | refine blk_drew ?_ | refine blk_alloc ?_ _)); exact BK1276.out) hb); have n3_ := Aside0.mk (below_step (by repeat (first | (with_reducible first | exact HB.out | apply below_alloc | apply pw_below_drewN | apply below_drew1 | refine below_set ?_ GE1256.out | refine below_set ?_ GE1257.out | refine below_set ?_ GE1276.out) | exact HB.out)) hb); have n4_ := Aside0.mk (hbox); have n5_ := Aside0.mk ((by rw [hg]; exact (below_size (by repeat (first | (with_reducible first | exact HB.out | apply below_alloc | apply pw_below_drewN | apply below_drew1 | refine below_set ?_ GE1256.out | refine below_set ?_ GE1257.out | refine below_set ?_ GE1276.out) | exact HB.out))) : w.heap.size ≤ gb1277)); have n6_ := Aside0.mk ((by rw [hg]; exact (below_size (by repeat (first | (with_reducible first | exact HB.out | apply below_alloc | apply pw_below_drewN | apply below_drew1 | refine below_set ?_ GE1256.out | refine below_set ?_ GE1257.out | refine below_set ?_ GE1276.out) | exact HB.out))) : w.heap.size ≤ gb1277)); have n7_ := Aside0.mk ((by rw [hg]; exact Nat.ne_of_lt (blk_lt (g := gb1256) (o := .cells #[.int .u8 t1250, .int .i64 t1251, .string t1252] 39 (0, 0)) (by (with_reducible repeat (first | refine blk_drewN ?_ _ | refine blk_drew ?_ | refine blk_alloc ?_ _)); exact BK1256.out)) : gb1256 ≠ gb1277)); have n8_ := Aside0.mk ((by rw [hg]; exact Nat.ne_of_gt (blk_lt (g := gb1256) (o := .cells #[.int .u8 t1250, .int .i64 t1251, .string t1252] 39 (0, 0)) (by (with_reducible repeat (first | refine blk_drewN ?_ _ | refine blk_drew ?_ | refine blk_alloc ?_ _)); exact BK1256.out)) : gb1277 ≠ gb1256)); have n9_ := Aside0.mk ((by rw [hg]; exact Nat.ne_of_lt (blk_lt (g := gb1257) (o := .cells #[.int .u8 t1253, .int .i64 t1254, .string t1255] 39 (0, 0)) (by (with_reducible repeat (first | refine blk_drewN ?_ _ | refine blk_drew ?_ | refine blk_alloc ?_ _)); exact BK1257.out)) : gb1257 ≠ gb1277)); have n10_ := Aside0.mk ((by rw [hg]; exact Nat.ne_of_gt (blk_lt (g := gb1257) (o := .cells #[.int .u8 t1253, .int .i64 t1254, .string t1255] 39 (0, 0)) (by (with_reducible repeat (first | refine blk_drewN ?_ _ | refine blk_drew ?_ | refine blk_alloc ?_ _)); exact BK1257.out)) : gb1277 ≠ gb1257)); have n11_ := Aside0.mk ((by rw [hg]; exact Nat.ne_of_lt (blk_lt (g := gb1276) (o := .cells #[.int .u8 0, .int .i64 0, .string (⟨#[]⟩ : ByteArray)] 39 (0, 0)) (by (with_reducible repeat (first | refine blk_drewN ?_ _ | refine blk_drew ?_ | refine blk_alloc ?_ _)); exact BK1276.out)) : gb1276 ≠ gb1277)); have n12_ := Aside0.mk ((by rw [hg]; exact Nat.ne_of_gt (blk_lt (g := gb1276) (o := .cells #[.int .u8 0, .int .i64 0, .string (⟨#[]⟩ : ByteArray)] 39 (0, 0)) (by (with_reducible repeat (first | refine blk_drewN ?_ _ | refine blk_drew ?_ | refine blk_alloc ?_ _)); exact BK1276.out)) : gb1277 ≠ gb1276)); clear BK1256; clear BK1257; clear BK1276; clear HB; have BK1256 := n0_; have BK1257 := n1_; have BK1276 := n2_; have HB := n3_; have BK1277 := n4_; have GW1277 := n5_; have GE1277 := n6_; have NB1256_1277 := n7_; have NB1277_1256 := n8_; have NB1257_1277 := n9_; have NB1277_1257 := n10_; have NB1276_1277 := n11_; have NB1277_1276 := n12_; clear n0_ n1_ n2_ n3_ n4_ n5_ n6_ n7_ n8_ n9_ n10_ n11_ n12_; clear hb hbox hg; have hnb85 := NB1276_1256.out; have hnc85 := NB1256_1276.out; have hnb86 := NB1276_1257.out; have hnc86 := NB1257_1276.out; have hnb87 := NB1276_1277.out; have hnc87 := NB1277_1276.out; have hcz88_0 : w84.cell? ⟨gb1276, 0, none⟩ = some (.int .u8 0) := (blk_cell BK1276.out 0).trans rfl; have hcz88_1 : w84.cell? ⟨gb1276, 1, none⟩ = some (.int .i64 0) := (blk_cell BK1276.out 1).trans rfl; have hcz88_2 : w84.cell? ⟨gb1276, 2, none⟩ = some (.string (⟨#[]⟩ : ByteArray)) := (blk_cell BK1276.out 2).trans rfl; have hfz88_0 := blk_frozen BK1276.out 0; have hfz88_1 := blk_frozen BK1276.out 1; have hfz88_2 := blk_frozen BK1276.out 2; have hnb89 := NB1277_1256.out; have hnc89 := NB1256_1277.out; have hnb90 := NB1277_1257.out; have hnc90 := NB1257_1277.out; have hcz91_0 : w84.cell? ⟨gb1277, 0, none⟩ = some (.int .u8 0) := (blk_cell BK1277.out 0).trans rfl; have hcz91_1 : w84.cell? ⟨gb1277, 1, none⟩ = some (.int .i64 0) := (blk_cell BK1277.out 1).trans rfl; have hcz91_2 : w84.cell? ⟨gb1277, 2, none⟩ = some (.string (⟨#[]⟩ : ByteArray)) := (blk_cell BK1277.out 2).trans rfl; have hfz91_0 := blk_frozen BK1277.out 0; have hfz91_1 := blk_frozen BK1277.out 1; have hfz91_2 := blk_frozen BK1277.out 2; have hnb92 := NB1256_1257.out; have hnc92 := NB1257_1256.out; have hcz93_0 : w84.cell? ⟨gb1256, 0, none⟩ = some (.int .u8 t1250) := (blk_cell BK1256.out 0).trans rfl; have hcz93_1 : w84.cell? ⟨gb1256, 1, none⟩ = some (.int .i64 t1251) := (blk_cell BK1256.out 1).trans rfl; have hcz93_2 : w84.cell? ⟨gb1256, 2, none⟩ = some (.string t1252) := (blk_cell BK1256.out 2).trans rfl; have hfz93_0 := blk_frozen BK1256.out 0; have hfz93_1 := blk_frozen BK1256.out 1; have hfz93_2 := blk_frozen BK1256.out 2) | (go_at_call 64; (with_reducible refine (tidelineref03_Less.calls t1270 t1271 t1272 t1250 t1251 t1252 true _ A79.out).mono ?_); rintro e w94 ⟨rfl, hb⟩; have n0_ := Aside0.mk (blk_below (g := gb1256) (o := .cells #[.int .u8 t1250, .int .i64 t1251, .string t1252] 39 (0, 0)) (by (with_reducible repeat (first | refine blk_drewN ?_ _ | refine blk_drew ?_ | refine blk_alloc ?_ _)); refine blk_far ?_ NB1256_1277.out _; (with_reducible repeat (first | refine blk_drewN ?_ _ | refine blk_drew ?_ | refine blk_alloc ?_ _)); refine blk_far ?_ NB1256_1277.out _; (with_reducible repeat (first | refine blk_drewN ?_ _ | refine blk_drew ?_ | refine blk_alloc ?_ _)); refine blk_far ?_ NB1256_1277.out _; (with_reducible repeat (first | refine blk_drewN ?_ _ | refine blk_drew ?_ | refine blk_alloc ?_ _)); refine blk_far ?_ NB1256_1276.out _; (with_reducible repeat (first | refine blk_drewN ?_ _ | refine blk_drew ?_ | refine blk_alloc ?_ _)); refine blk_far ?_ NB1256_1276.out _; (with_reducible repeat (first | refine blk_drewN ?_ _ | refine blk_drew ?_ | refine blk_alloc ?_ _)); refine blk_far ?_ NB1256_1276.out _; (with_reducible repeat (first | refine blk_drewN ?_ _ | refine blk_drew ?_ | refine blk_alloc ?_ _)); exact BK1256.out) hb); have n1_ := Aside0.mk (blk_below (g := gb1257) (o := .cells #[.int .u8 t1253, .int .i64 t1254, .string t1255] 39 (0, 0)) (by (with_reducible repeat (first | refine blk_drewN ?_ _ | refine blk_drew ?_ | refine blk_alloc ?_ _)); refine blk_far ?_ NB1257_1277.out _; (with_reducible repeat (first | refine blk_drewN ?_ _ | refine blk_drew ?_ | refine blk_alloc ?_ _)); refine blk_far ?_ NB1257_1277.out _; (with_reducible repeat (first | refine blk_drewN ?_ _ | refine blk_drew ?_ | refine blk_alloc ?_ _)); refine blk_far ?_ NB1257_1277.out _; (with_reducible repeat (first | refine blk_drewN ?_ _ | refine blk_drew ?_ | refine blk_alloc ?_ _)); refine blk_far ?_ NB1257_1276.out _; (with_reducible repeat (first | refine blk_drewN ?_ _ | refine blk_drew ?_ | refine blk_alloc ?_ _)); refine blk_far ?_ NB1257_1276.out _; (with_reducible repeat (first | refine blk_drewN ?_ _ | refine blk_drew ?_ | refine blk_alloc ?_ _)); refine blk_far ?_ NB1257_1276.out _; (with_reducible repeat (first | refine blk_drewN ?_ _ | refine blk_drew ?_ | refine blk_alloc ?_ _)); exact BK1257.out) hb); have n2_ := Aside0.mk (blk_below (g := gb1276) (o := .cells #[.int .u8 t1270, .int .i64 t1271, .string t1272] 39 (0, 0)) (by (with_reducible repeat (first | refine blk_drewN ?_ _ | refine blk_drew ?_ | refine blk_alloc ?_ _)); refine blk_far ?_ NB1276_1277.out _; (with_reducible repeat (first | refine blk_drewN ?_ _ | refine blk_drew ?_ | refine blk_alloc ?_ _)); refine blk_far ?_ NB1276_1277.out _; (with_reducible repeat (first | refine blk_drewN ?_ _ | refine blk_drew ?_ | refine blk_alloc ?_ _)); refine blk_far ?_ NB1276_1277.out _; (with_reducible repeat (first | refine blk_drewN ?_ _ | refine blk_drew ?_ | refine blk_alloc ?_ _)); refine blk_put (cs := #[.int .u8 t1270, .int .i64 t1271, .string (⟨#[]⟩ : ByteArray)]) ?_ 2 _ rfl; (with_reducible repeat (first | refine blk_drewN ?_ _ | refine blk_drew ?_ | refine blk_alloc ?_ _)); refine blk_put (cs := #[.int .u8 t1270, .int .i64 0, .string (⟨#[]⟩ : ByteArray)]) ?_ 1 _ rfl; (with_reducible repeat (first | refine blk_drewN ?_ _ | refine blk_drew ?_ | refine blk_alloc ?_ _)); refine blk_put (cs := #[.int .u8 0, .int .i64 0, .string (⟨#[]⟩ : ByteArray)]) ?_ 0 _ rfl; (with_reducible repeat (first | refine blk_drewN ?_ _ | refine blk_drew ?_ | refine blk_alloc ?_ _)); exact BK1276.out) hb); have n3_ := Aside0.mk (blk_below (g := gb1277) (o := .cells #[.int .u8 t1273, .int .i64 t1274, .string t1275] 39 (0, 0)) (by (with_reducible repeat (first | refine blk_drewN ?_ _ | refine blk_drew ?_ | refine blk_alloc ?_ _)); refine blk_put (cs := #[.int .u8 t1273, .int .i64 t1274, .string (⟨#[]⟩ : ByteArray)]) ?_ 2 _ rfl; (with_reducible repeat (first | refine blk_drewN ?_ _ | refine blk_drew ?_ | refine blk_alloc ?_ _)); refine blk_put (cs := #[.int .u8 t1273, .int .i64 0, .string (⟨#[]⟩ : ByteArray)]) ?_ 1 _ rfl; (with_reducible repeat (first | refine blk_drewN ?_ _ | refine blk_drew ?_ | refine blk_alloc ?_ _)); refine blk_put (cs := #[.int .u8 0, .int .i64 0, .string (⟨#[]⟩ : ByteArray)]) ?_ 0 _ rfl; (with_reducible repeat (first | refine blk_drewN ?_ _ | refine blk_drew ?_ | refine blk_alloc ?_ _)); refine blk_far ?_ NB1277_1276.out _; (with_reducible repeat (first | refine blk_drewN ?_ _ | refine blk_drew ?_ | refine blk_alloc ?_ _)); refine blk_far ?_ NB1277_1276.out _; (with_reducible repeat (first | refine blk_drewN ?_ _ | refine blk_drew ?_ | refine blk_alloc ?_ _)); refine blk_far ?_ NB1277_1276.out _; (with_reducible repeat (first | refine blk_drewN ?_ _ | refine blk_drew ?_ | refine blk_alloc ?_ _)); exact BK1277.out) hb); have n4_ := Aside0.mk (below_step (by repeat (first | (with_reducible first | exact HB.out | apply below_alloc | apply pw_below_drewN | apply below_drew1 | refine below_set ?_ GE1256.out | refine below_set ?_ GE1257.out | refine below_set ?_ GE1276.out | refine below_set ?_ GE1277.out) | exact HB.out)) hb); clear BK1256; clear BK1257; clear BK1276; clear BK1277; clear HB; have BK1256 := n0_; have BK1257 := n1_; have BK1276 := n2_; have BK1277 := n3_; have HB := n4_; clear n0_ n1_ n2_ n3_ n4_; (try clear hb); (try clear hb2); (try clear hk); (try clear hi)))
                                  go_ret
                                  exact ⟨by first | rfl | (simp [errW_none, errW_some] <;> rfl) | (simp [*, errW_none, errW_some] <;> rfl), by repeat (first | (with_reducible first | exact HB.out | apply below_alloc | apply pw_below_drewN | apply below_drew1 | refine below_set ?_ GE1256.out | refine below_set ?_ GE1257.out | refine below_set ?_ GE1276.out | refine below_set ?_ GE1277.out) | exact HB.out)⟩
                                · replace c80 := Bool.eq_false_iff.mpr c80
                                  subst c80
                                  have H1 : ((tidelineref03_Less.f t1253 t1254 t1255 t1273 t1274 t1275).bind fun t1280 => (if t1280 = true then (some false) else ((tidelinelaw06_puts.f).bind fun t1281 => (some t1281)))) = some r := by rw [if_neg (show ¬ (false = true) by decide)] at H; exact H
                                  clear H
                                  have H := H1
                                  clear H1
                                  replace H := Option.bind_eq_some_iff.mp H
                                  obtain ⟨t1280, A950, H⟩ := H
                                  replace H : (if t1280 = true then (some false) else ((tidelinelaw06_puts.f).bind fun t1281 => (some t1281))) = some r := H
                                  have A95 := Aside0.mk A950
                                  clear A950
                                  by_cases c96 : t1280 = true
                                  · subst c96
                                    have H1 : (some false) = some r := by rw [if_pos rfl] at H; exact H
                                    clear H
                                    have H := H1
                                    clear H1
                                    obtain rfl := Option.some.inj H
                                    have q97 : (x13_57 : Int) ≤ ((l1.length : Int) : Int) := of_decide_eq_true (by first | (with_reducible assumption) | assumption)
                                    obtain ⟨i097, hi097, _, hsz97, _⟩ := info_parts info39
                                    have hroom97 : l1.length ≤ c1 := HC1.out
                                    have hC97 : Kd.C k39 _ A1 l1.length l1 := HR1.out
                                    have hcut97 := Go.Proofs.YtlmcefhpnfoahaaW.PrintWords.cut_to (P := Try.prog) 23 39 .i64 Try.underlying23 hi097 A1 l1.length c1 x13_57 (of_decide_eq_true (by first | (with_reducible assumption) | assumption)) q97 hroom97
                                    have hr97 := Kd.C_take (m := (x13_57 : Int).toNat) hC97 (by omega)
                                    have hy97 : y1266.length = (x13_57 : Int).toNat := (by rw [Ny1266.out, List.length_take]; omega)
                                    rw [← Ny1266.out] at hr97
                                    rw [← hy97] at hcut97
                                    have HR1269 := Aside0.mk hr97
                                    have HC1269 := Aside0.mk (show y1266.length ≤ c1 from by omega)
                                    clear hr97 hC97 hroom97 hi097 hsz97
                                    have KY97 := Aside0.mk hy97
                                    clear hy97
                                    replace q97 := eq_true q97
                                    go_wp2_with (first | ((with_reducible refine gate_callee (f := 62) rfl ?_); refine goesL_ (some 104) rfl rfl Try.func62 (by kernel_rfl) rfl #[.slice A1 y1266.length c1] rfl (by (try simp only [List.map_toArray, List.map_cons, List.map_nil]); first | done | rfl | (simp only [List.length_drop, List.length_take]; rfl)) ?_; (with_reducible refine (column_Bounds.calls kj57 _ _ y1266 t1270 t1271 t1272 t1273 t1274 t1275 _ ?side1 ?side2 A62.out).mono ?_); (case side1 => repeat (first | exact (Kd.C_below HR1269.out HB.out) | (with_reducible refine Kd.C_alloc ?_ _) | (with_reducible refine Kd.C_drewN ?_ _) | (with_reducible refine Kd.C_drew ?_))); (case side2 => exact HC1269.out); rintro e w98 ⟨rfl, hb⟩; refine ⟨_, rfl, ?_⟩; have n0_ := Aside0.mk (blk_below (g := gb1256) (o := .cells #[.int .u8 t1250, .int .i64 t1251, .string t1252] 39 (0, 0)) (by (with_reducible repeat (first | refine blk_drewN ?_ _ | refine blk_drew ?_ | refine blk_alloc ?_ _)); exact BK1256.out) hb); have n1_ := Aside0.mk (blk_below (g := gb1257) (o := .cells #[.int .u8 t1253, .int .i64 t1254, .string t1255] 39 (0, 0)) (by (with_reducible repeat (first | refine blk_drewN ?_ _ | refine blk_drew ?_ | refine blk_alloc ?_ _)); exact BK1257.out) hb); have n2_ := Aside0.mk (below_step (by repeat (first | (with_reducible first | exact HB.out | apply below_alloc | apply pw_below_drewN | apply below_drew1 | refine below_set ?_ GE1256.out | refine below_set ?_ GE1257.out) | exact HB.out)) hb); clear BK1256; clear BK1257; clear HB; have BK1256 := n0_; have BK1257 := n1_; have HB := n2_; clear n0_ n1_ n2_; (try clear hb); (try clear hb2); (try clear hk); (try clear hi)) | ((with_reducible refine gate_dst (N := 14) rfl ?_); refine box_event ?hg (N := 14) ?hd (cs := #[.int .u8 0, .int .i64 0, .string (⟨#[]⟩ : ByteArray)]) (t := 39) ?hr ?_; (case hd => rfl); (case hg => rfl); (case hr => first | (go_simp; done) | (go_simp; rfl)); intro gb1276 hg w99 hbox hb; have n0_ := Aside0.mk (blk_below (g := gb1256) (o := .cells #[.int .u8 t1250, .int .i64 t1251, .string t1252] 39 (0, 0)) (by (with_reducible repeat (first | refine blk_drewN ?_ _ | refine blk_drew ?_ | refine blk_alloc ?_ _)); exact BK1256.out) hb); have n1_ := Aside0.mk (blk_below (g := gb1257) (o := .cells #[.int .u8 t1253, .int .i64 t1254, .string t1255] 39 (0, 0)) (by (with_reducible repeat (first | refine blk_drewN ?_ _ | refine blk_drew ?_ | refine blk_alloc ?_ _)); exact BK1257.out) hb); have n2_ := Aside0.mk (below_step (by repeat (first | (with_reducible first | exact HB.out | apply below_alloc | apply pw_below_drewN | apply below_drew1 | refine below_set ?_ GE1256.out | refine below_set ?_ GE1257.out) | exact HB.out)) hb); have n3_ := Aside0.mk (hbox); have n4_ := Aside0.mk ((by rw [hg]; exact (below_size (by repeat (first | (with_reducible first | exact HB.out | apply below_alloc | apply pw_below_drewN | apply below_drew1 | refine below_set ?_ GE1256.out | refine below_set ?_ GE1257.out) | exact HB.out))) : w.heap.size ≤ gb1276)); have n5_ := Aside0.mk ((by rw [hg]; exact (below_size (by repeat (first | (with_reducible first | exact HB.out | apply below_alloc | apply pw_below_drewN | apply below_drew1 | refine below_set ?_ GE1256.out | refine below_set ?_ GE1257.out) | exact HB.out))) : w.heap.size ≤ gb1276)); have n6_ := Aside0.mk ((by rw [hg]; exact Nat.ne_of_lt (blk_lt (g := gb1256) (o := .cells #[.int .u8 t1250, .int .i64 t1251, .string t1252] 39 (0, 0)) (by (with_reducible repeat (first | refine blk_drewN ?_ _ | refine blk_drew ?_ | refine blk_alloc ?_ _)); exact BK1256.out)) : gb1256 ≠ gb1276)); have n7_ := Aside0.mk ((by rw [hg]; exact Nat.ne_of_gt (blk_lt (g := gb1256) (o := .cells #[.int .u8 t1250, .int .i64 t1251, .string t1252] 39 (0, 0)) (by (with_reducible repeat (first | refine blk_drewN ?_ _ | refine blk_drew ?_ | refine blk_alloc ?_ _)); exact BK1256.out)) : gb1276 ≠ gb1256)); have n8_ := Aside0.mk ((by rw [hg]; exact Nat.ne_of_lt (blk_lt (g := gb1257) (o := .cells #[.int .u8 t1253, .int .i64 t1254, .string t1255] 39 (0, 0)) (by (with_reducible repeat (first | refine blk_drewN ?_ _ | refine blk_drew ?_ | refine blk_alloc ?_ _)); exact BK1257.out)) : gb1257 ≠ gb1276)); have n9_ := Aside0.mk ((by rw [hg]; exact Nat.ne_of_gt (blk_lt (g := gb1257) (o := .cells #[.int .u8 t1253, .int .i64 t1254, .string t1255] 39 (0, 0)) (by (with_reducible repeat (first | refine blk_drewN ?_ _ | refine blk_drew ?_ | refine blk_alloc ?_ _)); exact BK1257.out)) : gb1276 ≠ gb1257)); clear BK1256; clear BK1257; clear HB; have BK1256 := n0_; have BK1257 := n1_; have HB := n2_; have BK1276 := n3_; have GW1276 := n4_; have GE1276 := n5_; have NB1256_1276 := n6_; have NB1276_1256 := n7_; have NB1257_1276 := n8_; have NB1276_1257 := n9_; clear n0_ n1_ n2_ n3_ n4_ n5_ n6_ n7_ n8_ n9_; clear hb hbox hg) | ((with_reducible refine gate_dst (N := 15) rfl ?_); refine box_event ?hg (N := 15) ?hd (cs := #[.int .u8 0, .int .i64 0, .string (⟨#[]⟩ : ByteArray)]) (t := 39) ?hr ?_; (case hd => rfl); (case hg => rfl); (case hr => first | (go_simp; done) | (go_simp; rfl)); intro gb1277 hg w100 hbox hb; have n0_ := Aside0.mk (blk_below (g := gb1256) (o := .cells #[.int .u8 t1250, .int .i64 t1251, .string t1252] 39 (0, 0)) (by (with_reducible repeat (first | refine blk_drewN ?_ _ | refine blk_drew ?_ | refine blk_alloc ?_ _)); exact BK1256.out) hb); have n1_ := Aside0.mk (blk_below (g := gb1257) (o := .cells #[.int .u8 t1253, .int .i64 t1254, .string t1255] 39 (0, 0)) (by (with_reducible repeat (first | refine blk_drewN ?_ _ | refine blk_drew ?_ | refine blk_alloc ?_ _)); exact BK1257.out) hb); have n2_ := Aside0.mk (blk_below (g := gb1276) (o := .cells #[.int .u8 0, .int .i64 0, .string (⟨#[]⟩ : ByteArray)] 39 (0, 0)) (by (with_reducible repeat (first | refine blk_drewN ?_ _ | refine blk_drew ?_ | refine blk_alloc ?_ _)); exact BK1276.out) hb); have n3_ := Aside0.mk (below_step (by repeat (first | (with_reducible first | exact HB.out | apply below_alloc | apply pw_below_drewN | apply below_drew1 | refine below_set ?_ GE1256.out | refine below_set ?_ GE1257.out | refine below_set ?_ GE1276.out) | exact HB.out)) hb); have n4_ := Aside0.mk (hbox); have n5_ := Aside0.mk ((by rw [hg]; exact (below_size (by repeat (first | (with_reducible first | exact HB.out | apply below_alloc | apply pw_below_drewN | apply below_drew1 | refine below_set ?_ GE1256.out | refine below_set ?_ GE1257.out | refine below_set ?_ GE1276.out) | exact HB.out))) : w.heap.size ≤ gb1277)); have n6_ := Aside0.mk ((by rw [hg]; exact (below_size (by repeat (first | (with_reducible first | exact HB.out | apply below_alloc | apply pw_below_drewN | apply below_drew1 | refine below_set ?_ GE1256.out | refine below_set ?_ GE1257.out | refine below_set ?_ GE1276.out) | exact HB.out))) : w.heap.size ≤ gb1277)); have n7_ := Aside0.mk ((by rw [hg]; exact Nat.ne_of_lt (blk_lt (g := gb1256) (o := .cells #[.int .u8 t1250, .int .i64 t1251, .string t1252] 39 (0, 0)) (by (with_reducible repeat (first | refine blk_drewN ?_ _ | refine blk_drew ?_ | refine blk_alloc ?_ _)); exact BK1256.out)) : gb1256 ≠ gb1277)); have n8_ := Aside0.mk ((by rw [hg]; exact Nat.ne_of_gt (blk_lt (g := gb1256) (o := .cells #[.int .u8 t1250, .int .i64 t1251, .string t1252] 39 (0, 0)) (by (with_reducible repeat (first | refine blk_drewN ?_ _ | refine blk_drew ?_ | refine blk_alloc ?_ _)); exact BK1256.out)) : gb1277 ≠ gb1256)); have n9_ := Aside0.mk ((by rw [hg]; exact Nat.ne_of_lt (blk_lt (g := gb1257) (o := .cells #[.int .u8 t1253, .int .i64 t1254, .string t1255] 39 (0, 0)) (by (with_reducible repeat (first | refine blk_drewN ?_ _ | refine blk_drew ?_ | refine blk_alloc ?_ _)); exact BK1257.out)) : gb1257 ≠ gb1277)); have n10_ := Aside0.mk ((by rw [hg]; exact Nat.ne_of_gt (blk_lt (g := gb1257) (o := .cells #[.int .u8 t1253, .int .i64 t1254, .string t1255] 39 (0, 0)) (by (with_reducible repeat (first | refine blk_drewN ?_ _ | refine blk_drew ?_ | refine blk_alloc ?_ _)); exact BK1257.out)) : gb1277 ≠ gb1257)); have n11_ := Aside0.mk ((by rw [hg]; exact Nat.ne_of_lt (blk_lt (g := gb1276) (o := .cells #[.int .u8 0, .int .i64 0, .string (⟨#[]⟩ : ByteArray)] 39 (0, 0)) (by (with_reducible repeat (first | refine blk_drewN ?_ _ | refine blk_drew ?_ | refine blk_alloc ?_ _)); exact BK1276.out)) : gb1276 ≠ gb1277)); have n12_ := Aside0.mk ((by rw [hg]; exact Nat.ne_of_gt (blk_lt (g := gb1276) (o := .cells #[.int .u8 0, .int .i64 0, .string (⟨#[]⟩ : ByteArray)] 39 (0, 0)) (by (with_reducible repeat (first | refine blk_drewN ?_ _ | refine blk_drew ?_ | refine blk_alloc ?_ _)); exact BK1276.out)) : gb1277 ≠ gb1276)); clear BK1256; clear BK1257; clear BK1276; clear HB; have BK1256 := n0_; have BK1257 := n1_; have BK1276 := n2_; have HB := n3_; have BK1277 := n4_; have GW1277 := n5_; have GE1277 := n6_; have NB1256_1277 := n7_; have NB1277_1256 := n8_; have NB1257_1277 := n9_; have NB1277_1257 := n10_; have NB1276_1277 := n11_; have NB1277_1276 := n12_; clear n0_ n1_ n2_ n3_ n4_ n5_ n6_ n7_ n8_ n9_ n10_ n11_ n12_; clear hb hbox hg; have hnb101 := NB1276_1256.out; have hnc101 := NB1256_1276.out; have hnb102 := NB1276_1257.out; have hnc102 := NB1257_1276.out; have hnb103 := NB1276_1277.out; have hnc103 := NB1277_1276.out; have hcz104_0 : w100.cell? ⟨gb1276, 0, none⟩ = some (.int .u8 0) := (blk_cell BK1276.out 0).trans rfl; have hcz104_1 : w100.cell? ⟨gb1276, 1, none⟩ = some (.int .i64 0) := (blk_cell BK1276.out 1).trans rfl; have hcz104_2 : w100.cell? ⟨gb1276, 2, none⟩ = some (.string (⟨#[]⟩ : ByteArray)) := (blk_cell BK1276.out 2).trans rfl; have hfz104_0 := blk_frozen BK1276.out 0; have hfz104_1 := blk_frozen BK1276.out 1; have hfz104_2 := blk_frozen BK1276.out 2; have hnb105 := NB1277_1256.out; have hnc105 := NB1256_1277.out; have hnb106 := NB1277_1257.out; have hnc106 := NB1257_1277.out; have hcz107_0 : w100.cell? ⟨gb1277, 0, none⟩ = some (.int .u8 0) := (blk_cell BK1277.out 0).trans rfl; have hcz107_1 : w100.cell? ⟨gb1277, 1, none⟩ = some (.int .i64 0) := (blk_cell BK1277.out 1).trans rfl; have hcz107_2 : w100.cell? ⟨gb1277, 2, none⟩ = some (.string (⟨#[]⟩ : ByteArray)) := (blk_cell BK1277.out 2).trans rfl; have hfz107_0 := blk_frozen BK1277.out 0; have hfz107_1 := blk_frozen BK1277.out 1; have hfz107_2 := blk_frozen BK1277.out 2; have hnb108 := NB1256_1257.out; have hnc108 := NB1257_1256.out; have hcz109_0 : w100.cell? ⟨gb1256, 0, none⟩ = some (.int .u8 t1250) := (blk_cell BK1256.out 0).trans rfl; have hcz109_1 : w100.cell? ⟨gb1256, 1, none⟩ = some (.int .i64 t1251) := (blk_cell BK1256.out 1).trans rfl; have hcz109_2 : w100.cell? ⟨gb1256, 2, none⟩ = some (.string t1252) := (blk_cell BK1256.out 2).trans rfl; have hfz109_0 := blk_frozen BK1256.out 0; have hfz109_1 := blk_frozen BK1256.out 1; have hfz109_2 := blk_frozen BK1256.out 2) | (go_at_call 64; (with_reducible refine (tidelineref03_Less.calls t1270 t1271 t1272 t1250 t1251 t1252 false _ A79.out).mono ?_); rintro e w110 ⟨rfl, hb⟩; have n0_ := Aside0.mk (blk_below (g := gb1256) (o := .cells #[.int .u8 t1250, .int .i64 t1251, .string t1252] 39 (0, 0)) (by (with_reducible repeat (first | refine blk_drewN ?_ _ | refine blk_drew ?_ | refine blk_alloc ?_ _)); refine blk_far ?_ NB1256_1277.out _; (with_reducible repeat (first | refine blk_drewN ?_ _ | refine blk_drew ?_ | refine blk_alloc ?_ _)); refine blk_far ?_ NB1256_1277.out _; (with_reducible repeat (first | refine blk_drewN ?_ _ | refine blk_drew ?_ | refine blk_alloc ?_ _)); refine blk_far ?_ NB1256_1277.out _; (with_reducible repeat (first | refine blk_drewN ?_ _ | refine blk_drew ?_ | refine blk_alloc ?_ _)); refine blk_far ?_ NB1256_1276.out _; (with_reducible repeat (first | refine blk_drewN ?_ _ | refine blk_drew ?_ | refine blk_alloc ?_ _)); refine blk_far ?_ NB1256_1276.out _; (with_reducible repeat (first | refine blk_drewN ?_ _ | refine blk_drew ?_ | refine blk_alloc ?_ _)); refine blk_far ?_ NB1256_1276.out _; (with_reducible repeat (first | refine blk_drewN ?_ _ | refine blk_drew ?_ | refine blk_alloc ?_ _)); exact BK1256.out) hb); have n1_ := Aside0.mk (blk_below (g := gb1257) (o := .cells #[.int .u8 t1253, .int .i64 t1254, .string t1255] 39 (0, 0)) (by (with_reducible repeat (first | refine blk_drewN ?_ _ | refine blk_drew ?_ | refine blk_alloc ?_ _)); refine blk_far ?_ NB1257_1277.out _; (with_reducible repeat (first | refine blk_drewN ?_ _ | refine blk_drew ?_ | refine blk_alloc ?_ _)); refine blk_far ?_ NB1257_1277.out _; (with_reducible repeat (first | refine blk_drewN ?_ _ | refine blk_drew ?_ | refine blk_alloc ?_ _)); refine blk_far ?_ NB1257_1277.out _; (with_reducible repeat (first | refine blk_drewN ?_ _ | refine blk_drew ?_ | refine blk_alloc ?_ _)); refine blk_far ?_ NB1257_1276.out _; (with_reducible repeat (first | refine blk_drewN ?_ _ | refine blk_drew ?_ | refine blk_alloc ?_ _)); refine blk_far ?_ NB1257_1276.out _; (with_reducible repeat (first | refine blk_drewN ?_ _ | refine blk_drew ?_ | refine blk_alloc ?_ _)); refine blk_far ?_ NB1257_1276.out _; (with_reducible repeat (first | refine blk_drewN ?_ _ | refine blk_drew ?_ | refine blk_alloc ?_ _)); exact BK1257.out) hb); have n2_ := Aside0.mk (blk_below (g := gb1276) (o := .cells #[.int .u8 t1270, .int .i64 t1271, .string t1272] 39 (0, 0)) (by (with_reducible repeat (first | refine blk_drewN ?_ _ | refine blk_drew ?_ | refine blk_alloc ?_ _)); refine blk_far ?_ NB1276_1277.out _; (with_reducible repeat (first | refine blk_drewN ?_ _ | refine blk_drew ?_ | refine blk_alloc ?_ _)); refine blk_far ?_ NB1276_1277.out _; (with_reducible repeat (first | refine blk_drewN ?_ _ | refine blk_drew ?_ | refine blk_alloc ?_ _)); refine blk_far ?_ NB1276_1277.out _; (with_reducible repeat (first | refine blk_drewN ?_ _ | refine blk_drew ?_ | refine blk_alloc ?_ _)); refine blk_put (cs := #[.int .u8 t1270, .int .i64 t1271, .string (⟨#[]⟩ : ByteArray)]) ?_ 2 _ rfl; (with_reducible repeat (first | refine blk_drewN ?_ _ | refine blk_drew ?_ | refine blk_alloc ?_ _)); refine blk_put (cs := #[.int .u8 t1270, .int .i64 0, .string (⟨#[]⟩ : ByteArray)]) ?_ 1 _ rfl; (with_reducible repeat (first | refine blk_drewN ?_ _ | refine blk_drew ?_ | refine blk_alloc ?_ _)); refine blk_put (cs := #[.int .u8 0, .int .i64 0, .string (⟨#[]⟩ : ByteArray)]) ?_ 0 _ rfl; (with_reducible repeat (first | refine blk_drewN ?_ _ | refine blk_drew ?_ | refine blk_alloc ?_ _)); exact BK1276.out) hb); have n3_ := Aside0.mk (blk_below (g := gb1277) (o := .cells #[.int .u8 t1273, .int .i64 t1274, .string t1275] 39 (0, 0)) (by (with_reducible repeat (first | refine blk_drewN ?_ _ | refine blk_drew ?_ | refine blk_alloc ?_ _)); refine blk_put (cs := #[.int .u8 t1273, .int .i64 t1274, .string (⟨#[]⟩ : ByteArray)]) ?_ 2 _ rfl; (with_reducible repeat (first | refine blk_drewN ?_ _ | refine blk_drew ?_ | refine blk_alloc ?_ _)); refine blk_put (cs := #[.int .u8 t1273, .int .i64 0, .string (⟨#[]⟩ : ByteArray)]) ?_ 1 _ rfl; (with_reducible repeat (first | refine blk_drewN ?_ _ | refine blk_drew ?_ | refine blk_alloc ?_ _)); refine blk_put (cs := #[.int .u8 0, .int .i64 0, .string (⟨#[]⟩ : ByteArray)]) ?_ 0 _ rfl; (with_reducible repeat (first | refine blk_drewN ?_ _ | refine blk_drew ?_ | refine blk_alloc ?_ _)); refine blk_far ?_ NB1277_1276.out _; (with_reducible repeat (first | refine blk_drewN ?_ _ | refine blk_drew ?_ | refine blk_alloc ?_ _)); refine blk_far ?_ NB1277_1276.out _; (with_reducible repeat (first | refine blk_drewN ?_ _ | refine blk_drew ?_ | refine blk_alloc ?_ _)); refine blk_far ?_ NB1277_1276.out _; (with_reducible repeat (first | refine blk_drewN ?_ _ | refine blk_drew ?_ | refine blk_alloc ?_ _)); exact BK1277.out) hb); have n4_ := Aside0.mk (below_step (by repeat (first | (with_reducible first | exact HB.out | apply below_alloc | apply pw_below_drewN | apply below_drew1 | refine below_set ?_ GE1256.out | refine below_set ?_ GE1257.out | refine below_set ?_ GE1276.out | refine below_set ?_ GE1277.out) | exact HB.out)) hb); clear BK1256; clear BK1257; clear BK1276; clear BK1277; clear HB; have BK1256 := n0_; have BK1257 := n1_; have BK1276 := n2_; have BK1277 := n3_; have HB := n4_; clear n0_ n1_ n2_ n3_ n4_; (try clear hb); (try clear hb2); (try clear hk); (try clear hi); have hcz111_0 : w110.cell? ⟨gb1257, 0, none⟩ = some (.int .u8 t1253) := (blk_cell BK1257.out 0).trans rfl; have hcz111_1 : w110.cell? ⟨gb1257, 1, none⟩ = some (.int .i64 t1254) := (blk_cell BK1257.out 1).trans rfl; have hcz111_2 : w110.cell? ⟨gb1257, 2, none⟩ = some (.string t1255) := (blk_cell BK1257.out 2).trans rfl; have hfz111_0 := blk_frozen BK1257.out 0; have hfz111_1 := blk_frozen BK1257.out 1; have hfz111_2 := blk_frozen BK1257.out 2; have hcz112_0 : w110.cell? ⟨gb1277, 0, none⟩ = some (.int .u8 t1273) := (blk_cell BK1277.out 0).trans rfl; have hcz112_1 : w110.cell? ⟨gb1277, 1, none⟩ = some (.int .i64 t1274) := (blk_cell BK1277.out 1).trans rfl; have hcz112_2 : w110.cell? ⟨gb1277, 2, none⟩ = some (.string t1275) := (blk_cell BK1277.out 2).trans rfl; have hfz112_0 := blk_frozen BK1277.out 0; have hfz112_1 := blk_frozen BK1277.out 1; have hfz112_2 := blk_frozen BK1277.out 2) | (go_at_call 64; (with_reducible refine (tidelineref03_Less.calls t1253 t1254 t1255 t1273 t1274 t1275 true _ A95.out).mono ?_); rintro e w113 ⟨rfl, hb⟩; have n0_ := Aside0.mk (blk_below (g := gb1256) (o := .cells #[.int .u8 t1250, .int .i64 t1251, .string t1252] 39 (0, 0)) (by (with_reducible repeat (first | refine blk_drewN ?_ _ | refine blk_drew ?_ | refine blk_alloc ?_ _)); exact BK1256.out) hb); have n1_ := Aside0.mk (blk_below (g := gb1257) (o := .cells #[.int .u8 t1253, .int .i64 t1254, .string t1255] 39 (0, 0)) (by (with_reducible repeat (first | refine blk_drewN ?_ _ | refine blk_drew ?_ | refine blk_alloc ?_ _)); exact BK1257.out) hb); have n2_ := Aside0.mk (blk_below (g := gb1276) (o := .cells #[.int .u8 t1270, .int .i64 t1271, .string t1272] 39 (0, 0)) (by (with_reducible repeat (first | refine blk_drewN ?_ _ | refine blk_drew ?_ | refine blk_alloc ?_ _)); exact BK1276.out) hb); have n3_ := Aside0.mk (blk_below (g := gb1277) (o := .cells #[.int .u8 t1273, .int .i64 t1274, .string t1275] 39 (0, 0)) (by (with_reducible repeat (first | refine blk_drewN ?_ _ | refine blk_drew ?_ | refine blk_alloc ?_ _)); exact BK1277.out) hb); have n4_ := Aside0.mk (below_step (by repeat (first | (with_reducible first | exact HB.out | apply below_alloc | apply pw_below_drewN | apply below_drew1 | refine below_set ?_ GE1256.out | refine below_set ?_ GE1257.out | refine below_set ?_ GE1276.out | refine below_set ?_ GE1277.out) | exact HB.out)) hb); clear BK1256; clear BK1257; clear BK1276; clear BK1277; clear HB; have BK1256 := n0_; have BK1257 := n1_; have BK1276 := n2_; have BK1277 := n3_; have HB := n4_; clear n0_ n1_ n2_ n3_ n4_; (try clear hb); (try clear hb2); (try clear hk); (try clear hi)))
                                    go_ret
                                    exact ⟨by first | rfl | (simp [errW_none, errW_some] <;> rfl) | (simp [*, errW_none, errW_some] <;> rfl), by repeat (first | (with_reducible first | exact HB.out | apply below_alloc | apply pw_below_drewN | apply below_drew1 | refine below_set ?_ GE1256.out | refine below_set ?_ GE1257.out | refine below_set ?_ GE1276.out | refine below_set ?_ GE1277.out) | exact HB.out)⟩
                                  · replace c96 := Bool.eq_false_iff.mpr c96
                                    subst c96
                                    have H1 : ((tidelinelaw06_puts.f).bind fun t1281 => (some t1281)) = some r := by rw [if_neg (show ¬ (false = true) by decide)] at H; exact H
                                    clear H
                                    have H := H1
                                    clear H1
                                    replace H := Option.bind_eq_some_iff.mp H
                                    obtain ⟨t1281, A1140, H⟩ := H
                                    replace H : (some t1281) = some r := H
                                    have A114 := Aside0.mk A1140
                                    clear A1140
                                    obtain rfl := Option.some.inj H
                                    have q115 : (x13_57 : Int) ≤ ((l1.length : Int) : Int) := of_decide_eq_true (by first | (with_reducible assumption) | assumption)
                                    obtain ⟨i0115, hi0115, _, hsz115, _⟩ := info_parts info39
                                    have hroom115 : l1.length ≤ c1 := HC1.out
                                    have hC115 : Kd.C k39 _ A1 l1.length l1 := HR1.out
                                    have hcut115 := Go.Proofs.YtlmcefhpnfoahaaW.PrintWords.cut_to (P := Try.prog) 23 39 .i64 Try.underlying23 hi0115 A1 l1.length c1 x13_57 (of_decide_eq_true (by first | (with_reducible assumption) | assumption)) q115 hroom115
                                    have hr115 := Kd.C_take (m := (x13_57 : Int).toNat) hC115 (by omega)
                                    have hy115 : y1266.length = (x13_57 : Int).toNat := (by rw [Ny1266.out, List.length_take]; omega)
                                    rw [← Ny1266.out] at hr115
                                    rw [← hy115] at hcut115
                                    have HR1269 := Aside0.mk hr115
                                    have HC1269 := Aside0.mk (show y1266.length ≤ c1 from by omega)
                                    clear hr115 hC115 hroom115 hi0115 hsz115
                                    have KY115 := Aside0.mk hy115
                                    clear hy115
                                    replace q115 := eq_true q115
                                    go_wp2_with (first | ((with_reducible refine gate_callee (f := 62) rfl ?_); refine goesL_ (some 104) rfl rfl Try.func62 (by kernel_rfl) rfl #[.slice A1 y1266.length c1] rfl (by (try simp only [List.map_toArray, List.map_cons, List.map_nil]); first | done | rfl | (simp only [List.length_drop, List.length_take]; rfl)) ?_; (with_reducible refine (column_Bounds.calls kj57 _ _ y1266 t1270 t1271 t1272 t1273 t1274 t1275 _ ?side1 ?side2 A62.out).mono ?_); (case side1 => repeat (first | exact (Kd.C_below HR1269.out HB.out) | (with_reducible refine Kd.C_alloc ?_ _) | (with_reducible refine Kd.C_drewN ?_ _) | (with_reducible refine Kd.C_drew ?_))); (case side2 => exact HC1269.out); rintro e w116 ⟨rfl, hb⟩; refine ⟨_, rfl, ?_⟩; have n0_ := Aside0.mk (blk_below (g := gb1256) (o := .cells #[.int .u8 t1250, .int .i64 t1251, .string t1252] 39 (0, 0)) (by (with_reducible repeat (first | refine blk_drewN ?_ _ | refine blk_drew ?_ | refine blk_alloc ?_ _)); exact BK1256.out) hb); have n1_ := Aside0.mk (blk_below (g := gb1257) (o := .cells #[.int .u8 t1253, .int .i64 t1254, .string t1255] 39 (0, 0)) (by (with_reducible repeat (first | refine blk_drewN ?_ _ | refine blk_drew ?_ | refine blk_alloc ?_ _)); exact BK1257.out) hb); have n2_ := Aside0.mk (below_step (by repeat (first | (with_reducible first | exact HB.out | apply below_alloc | apply pw_below_drewN | apply below_drew1 | refine below_set ?_ GE1256.out | refine below_set ?_ GE1257.out) | exact HB.out)) hb); clear BK1256; clear BK1257; clear HB; have BK1256 := n0_; have BK1257 := n1_; have HB := n2_; clear n0_ n1_ n2_; (try clear hb); (try clear hb2); (try clear hk); (try clear hi)) | ((with_reducible refine gate_dst (N := 14) rfl ?_); refine box_event ?hg (N := 14) ?hd (cs := #[.int .u8 0, .int .i64 0, .string (⟨#[]⟩ : ByteArray)]) (t := 39) ?hr ?_; (case hd => rfl); (case hg => rfl); (case hr => first | (go_simp; done) | (go_simp; rfl)); intro gb1276 hg w117 hbox hb; have n0_ := Aside0.mk (blk_below (g := gb1256) (o := .cells #[.int .u8 t1250, .int .i64 t1251, .string t1252] 39 (0, 0)) (by (with_reducible repeat (first | refine blk_drewN ?_ _ | refine blk_drew ?_ | refine blk_alloc ?_ _)); exact BK1256.out) hb); have n1_ := Aside0.mk (blk_below (g := gb1257) (o := .cells #[.int .u8 t1253, .int .i64 t1254, .string t1255] 39 (0, 0)) (by (with_reducible repeat (first | refine blk_drewN ?_ _ | refine blk_drew ?_ | refine blk_alloc ?_ _)); exact BK1257.out) hb); have n2_ := Aside0.mk (below_step (by repeat (first | (with_reducible first | exact HB.out | apply below_alloc | apply pw_below_drewN | apply below_drew1 | refine below_set ?_ GE1256.out | refine below_set ?_ GE1257.out) | exact HB.out)) hb); have n3_ := Aside0.mk (hbox); have n4_ := Aside0.mk ((by rw [hg]; exact (below_size (by repeat (first | (with_reducible first | exact HB.out | apply below_alloc | apply pw_below_drewN | apply below_drew1 | refine below_set ?_ GE1256.out | refine below_set ?_ GE1257.out) | exact HB.out))) : w.heap.size ≤ gb1276)); have n5_ := Aside0.mk ((by rw [hg]; exact (below_size (by repeat (first | (with_reducible first | exact HB.out | apply below_alloc | apply pw_below_drewN | apply below_drew1 | refine below_set ?_ GE1256.out | refine below_set ?_ GE1257.out) | exact HB.out))) : w.heap.size ≤ gb1276)); have n6_ := Aside0.mk ((by rw [hg]; exact Nat.ne_of_lt (blk_lt (g := gb1256) (o := .cells #[.int .u8 t1250, .int .i64 t1251, .string t1252] 39 (0, 0)) (by (with_reducible repeat (first | refine blk_drewN ?_ _ | refine blk_drew ?_ | refine blk_alloc ?_ _)); exact BK1256.out)) : gb1256 ≠ gb1276)); have n7_ := Aside0.mk ((by rw [hg]; exact Nat.ne_of_gt (blk_lt (g := gb1256) (o := .cells #[.int .u8 t1250, .int .i64 t1251, .string t1252] 39 (0, 0)) (by (with_reducible repeat (first | refine blk_drewN ?_ _ | refine blk_drew ?_ | refine blk_alloc ?_ _)); exact BK1256.out)) : gb1276 ≠ gb1256)); have n8_ := Aside0.mk ((by rw [hg]; exact Nat.ne_of_lt (blk_lt (g := gb1257) (o := .cells #[.int .u8 t1253, .int .i64 t1254, .string t1255] 39 (0, 0)) (by (with_reducible repeat (first | refine blk_drewN ?_ _ | refine blk_drew ?_ | refine blk_alloc ?_ _)); exact BK1257.out)) : gb1257 ≠ gb1276)); have n9_ := Aside0.mk ((by rw [hg]; exact Nat.ne_of_gt (blk_lt (g := gb1257) (o := .cells #[.int .u8 t1253, .int .i64 t1254, .string t1255] 39 (0, 0)) (by (with_reducible repeat (first | refine blk_drewN ?_ _ | refine blk_drew ?_ | refine blk_alloc ?_ _)); exact BK1257.out)) : gb1276 ≠ gb1257)); clear BK1256; clear BK1257; clear HB; have BK1256 := n0_; have BK1257 := n1_; have HB := n2_; have BK1276 := n3_; have GW1276 := n4_; have GE1276 := n5_; have NB1256_1276 := n6_; have NB1276_1256 := n7_; have NB1257_1276 := n8_; have NB1276_1257 := n9_; clear n0_ n1_ n2_ n3_ n4_ n5_ n6_ n7_ n8_ n9_; clear hb hbox hg) | ((with_reducible refine gate_dst (N := 15) rfl ?_); refine box_event ?hg (N := 15) ?hd (cs := #[.int .u8 0, .int .i64 0, .string (⟨#[]⟩ : ByteArray)]) (t := 39) ?hr ?_; (case hd => rfl); (case hg => rfl); (case hr => first | (go_simp; done) | (go_simp; rfl)); intro gb1277 hg w118 hbox hb; have n0_ := Aside0.mk (blk_below (g := gb1256) (o := .cells #[.int .u8 t1250, .int .i64 t1251, .string t1252] 39 (0, 0)) (by (with_reducible repeat (first | refine blk_drewN ?_ _ | refine blk_drew ?_ | refine blk_alloc ?_ _)); exact BK1256.out) hb); have n1_ := Aside0.mk (blk_below (g := gb1257) (o := .cells #[.int .u8 t1253, .int .i64 t1254, .string t1255] 39 (0, 0)) (by (with_reducible repeat (first | refine blk_drewN ?_ _ | refine blk_drew ?_ | refine blk_alloc ?_ _)); exact BK1257.out) hb); have n2_ := Aside0.mk (blk_below (g := gb1276) (o := .cells #[.int .u8 0, .int .i64 0, .string (⟨#[]⟩ : ByteArray)] 39 (0, 0)) (by (with_reducible repeat (first | refine blk_drewN ?_ _ | refine blk_drew ?_ | refine blk_alloc ?_ _)); exact BK1276.out) hb); have n3_ := Aside0.mk (below_step (by repeat (first | (with_reducible first | exact HB.out | apply below_alloc | apply pw_below_drewN | apply below_drew1 | refine below_set ?_ GE1256.out | refine below_set ?_ GE1257.out | refine below_set ?_ GE1276.out) | exact HB.out)) hb); have n4_ := Aside0.mk (hbox); have n5_ := Aside0.mk ((by rw [hg]; exact (below_size (by repeat (first | (with_reducible first | exact HB.out | apply below_alloc | apply pw_below_drewN | apply below_drew1 | refine below_set ?_ GE1256.out | refine below_set ?_ GE1257.out | refine below_set ?_ GE1276.out) | exact HB.out))) : w.heap.size ≤ gb1277)); have n6_ := Aside0.mk ((by rw [hg]; exact (below_size (by repeat (first | (with_reducible first | exact HB.out | apply below_alloc | apply pw_below_drewN | apply below_drew1 | refine below_set ?_ GE1256.out | refine below_set ?_ GE1257.out | refine below_set ?_ GE1276.out) | exact HB.out))) : w.heap.size ≤ gb1277)); have n7_ := Aside0.mk ((by rw [hg]; exact Nat.ne_of_lt (blk_lt (g := gb1256) (o := .cells #[.int .u8 t1250, .int .i64 t1251, .string t1252] 39 (0, 0)) (by (with_reducible repeat (first | refine blk_drewN ?_ _ | refine blk_drew ?_ | refine blk_alloc ?_ _)); exact BK1256.out)) : gb1256 ≠ gb1277)); have n8_ := Aside0.mk ((by rw [hg]; exact Nat.ne_of_gt (blk_lt (g := gb1256) (o := .cells #[.int .u8 t1250, .int .i64 t1251, .string t1252] 39 (0, 0)) (by (with_reducible repeat (first | refine blk_drewN ?_ _ | refine blk_drew ?_ | refine blk_alloc ?_ _)); exact BK1256.out)) : gb1277 ≠ gb1256)); have n9_ := Aside0.mk ((by rw [hg]; exact Nat.ne_of_lt (blk_lt (g := gb1257) (o := .cells #[.int .u8 t1253, .int .i64 t1254, .string t1255] 39 (0, 0)) (by (with_reducible repeat (first | refine blk_drewN ?_ _ | refine blk_drew ?_ | refine blk_alloc ?_ _)); exact BK1257.out)) : gb1257 ≠ gb1277)); have n10_ := Aside0.mk ((by rw [hg]; exact Nat.ne_of_gt (blk_lt (g := gb1257) (o := .cells #[.int .u8 t1253, .int .i64 t1254, .string t1255] 39 (0, 0)) (by (with_reducible repeat (first | refine blk_drewN ?_ _ | refine blk_drew ?_ | refine blk_alloc ?_ _)); exact BK1257.out)) : gb1277 ≠ gb1257)); have n11_ := Aside0.mk ((by rw [hg]; exact Nat.ne_of_lt (blk_lt (g := gb1276) (o := .cells #[.int .u8 0, .int .i64 0, .string (⟨#[]⟩ : ByteArray)] 39 (0, 0)) (by (with_reducible repeat (first | refine blk_drewN ?_ _ | refine blk_drew ?_ | refine blk_alloc ?_ _)); exact BK1276.out)) : gb1276 ≠ gb1277)); have n12_ := Aside0.mk ((by rw [hg]; exact Nat.ne_of_gt (blk_lt (g := gb1276) (o := .cells #[.int .u8 0, .int .i64 0, .string (⟨#[]⟩ : ByteArray)] 39 (0, 0)) (by (with_reducible repeat (first | refine blk_drewN ?_ _ | refine blk_drew ?_ | refine blk_alloc ?_ _)); exact BK1276.out)) : gb1277 ≠ gb1276)); clear BK1256; clear BK1257; clear BK1276; clear HB; have BK1256 := n0_; have BK1257 := n1_; have BK1276 := n2_; have HB := n3_; have BK1277 := n4_; have GW1277 := n5_; have GE1277 := n6_; have NB1256_1277 := n7_; have NB1277_1256 := n8_; have NB1257_1277 := n9_; have NB1277_1257 := n10_; have NB1276_1277 := n11_; have NB1277_1276 := n12_; clear n0_ n1_ n2_ n3_ n4_ n5_ n6_ n7_ n8_ n9_ n10_ n11_ n12_; clear hb hbox hg; have hnb119 := NB1276_1256.out; have hnc119 := NB1256_1276.out; have hnb120 := NB1276_1257.out; have hnc120 := NB1257_1276.out; have hnb121 := NB1276_1277.out; have hnc121 := NB1277_1276.out; have hcz122_0 : w118.cell? ⟨gb1276, 0, none⟩ = some (.int .u8 0) := (blk_cell BK1276.out 0).trans rfl; have hcz122_1 : w118.cell? ⟨gb1276, 1, none⟩ = some (.int .i64 0) := (blk_cell BK1276.out 1).trans rfl; have hcz122_2 : w118.cell? ⟨gb1276, 2, none⟩ = some (.string (⟨#[]⟩ : ByteArray)) := (blk_cell BK1276.out 2).trans rfl; have hfz122_0 := blk_frozen BK1276.out 0; have hfz122_1 := blk_frozen BK1276.out 1; have hfz122_2 := blk_frozen BK1276.out 2; have hnb123 := NB1277_1256.out; have hnc123 := NB1256_1277.out; have hnb124 := NB1277_1257.out; have hnc124 := NB1257_1277.out; have hcz125_0 : w118.cell? ⟨gb1277, 0, none⟩ = some (.int .u8 0) := (blk_cell BK1277.out 0).trans rfl; have hcz125_1 : w118.cell? ⟨gb1277, 1, none⟩ = some (.int .i64 0) := (blk_cell BK1277.out 1).trans rfl; have hcz125_2 : w118.cell? ⟨gb1277, 2, none⟩ = some (.string (⟨#[]⟩ : ByteArray)) := (blk_cell BK1277.out 2).trans rfl; have hfz125_0 := blk_frozen BK1277.out 0; have hfz125_1 := blk_frozen BK1277.out 1; have hfz125_2 := blk_frozen BK1277.out 2; have hnb126 := NB1256_1257.out; have hnc126 := NB1257_1256.out; have hcz127_0 : w118.cell? ⟨gb1256, 0, none⟩ = some (.int .u8 t1250) := (blk_cell BK1256.out 0).trans rfl; have hcz127_1 : w118.cell? ⟨gb1256, 1, none⟩ = some (.int .i64 t1251) := (blk_cell BK1256.out 1).trans rfl; have hcz127_2 : w118.cell? ⟨gb1256, 2, none⟩ = some (.string t1252) := (blk_cell BK1256.out 2).trans rfl; have hfz127_0 := blk_frozen BK1256.out 0; have hfz127_1 := blk_frozen BK1256.out 1; have hfz127_2 := blk_frozen BK1256.out 2) | (go_at_call 64; (with_reducible refine (tidelineref03_Less.calls t1270 t1271 t1272 t1250 t1251 t1252 false _ A79.out).mono ?_); rintro e w128 ⟨rfl, hb⟩; have n0_ := Aside0.mk (blk_below (g := gb1256) (o := .cells #[.int .u8 t1250, .int .i64 t1251, .string t1252] 39 (0, 0)) (by (with_reducible repeat (first | refine blk_drewN ?_ _ | refine blk_drew ?_ | refine blk_alloc ?_ _)); refine blk_far ?_ NB1256_1277.out _; (with_reducible repeat (first | refine blk_drewN ?_ _ | refine blk_drew ?_ | refine blk_alloc ?_ _)); refine blk_far ?_ NB1256_1277.out _; (with_reducible repeat (first | refine blk_drewN ?_ _ | refine blk_drew ?_ | refine blk_alloc ?_ _)); refine blk_far ?_ NB1256_1277.out _; (with_reducible repeat (first | refine blk_drewN ?_ _ | refine blk_drew ?_ | refine blk_alloc ?_ _)); refine blk_far ?_ NB1256_1276.out _; (with_reducible repeat (first | refine blk_drewN ?_ _ | refine blk_drew ?_ | refine blk_alloc ?_ _)); refine blk_far ?_ NB1256_1276.out _; (with_reducible repeat (first | refine blk_drewN ?_ _ | refine blk_drew ?_ | refine blk_alloc ?_ _)); refine blk_far ?_ NB1256_1276.out _; (with_reducible repeat (first | refine blk_drewN ?_ _ | refine blk_drew ?_ | refine blk_alloc ?_ _)); exact BK1256.out) hb); have n1_ := Aside0.mk (blk_below (g := gb1257) (o := .cells #[.int .u8 t1253, .int .i64 t1254, .string t1255] 39 (0, 0)) (by (with_reducible repeat (first | refine blk_drewN ?_ _ | refine blk_drew ?_ | refine blk_alloc ?_ _)); refine blk_far ?_ NB1257_1277.out _; (with_reducible repeat (first | refine blk_drewN ?_ _ | refine blk_drew ?_ | refine blk_alloc ?_ _)); refine blk_far ?_ NB1257_1277.out _; (with_reducible repeat (first | refine blk_drewN ?_ _ | refine blk_drew ?_ | refine blk_alloc ?_ _)); refine blk_far ?_ NB1257_1277.out _; (with_reducible repeat (first | refine blk_drewN ?_ _ | refine blk_drew ?_ | refine blk_alloc ?_ _)); refine blk_far ?_ NB1257_1276.out _; (with_reducible repeat (first | refine blk_drewN ?_ _ | refine blk_drew ?_ | refine blk_alloc ?_ _)); refine blk_far ?_ NB1257_1276.out _; (with_reducible repeat (first | refine blk_drewN ?_ _ | refine blk_drew ?_ | refine blk_alloc ?_ _)); refine blk_far ?_ NB1257_1276.out _; (with_reducible repeat (first | refine blk_drewN ?_ _ | refine blk_drew ?_ | refine blk_alloc ?_ _)); exact BK1257.out) hb); have n2_ := Aside0.mk (blk_below (g := gb1276) (o := .cells #[.int .u8 t1270, .int .i64 t1271, .string t1272] 39 (0, 0)) (by (with_reducible repeat (first | refine blk_drewN ?_ _ | refine blk_drew ?_ | refine blk_alloc ?_ _)); refine blk_far ?_ NB1276_1277.out _; (with_reducible repeat (first | refine blk_drewN ?_ _ | refine blk_drew ?_ | refine blk_alloc ?_ _)); refine blk_far ?_ NB1276_1277.out _; (with_reducible repeat (first | refine blk_drewN ?_ _ | refine blk_drew ?_ | refine blk_alloc ?_ _)); refine blk_far ?_ NB1276_1277.out _; (with_reducible repeat (first | refine blk_drewN ?_ _ | refine blk_drew ?_ | refine blk_alloc ?_ _)); refine blk_put (cs := #[.int .u8 t1270, .int .i64 t1271, .string (⟨#[]⟩ : ByteArray)]) ?_ 2 _ rfl; (with_reducible repeat (first | refine blk_drewN ?_ _ | refine blk_drew ?_ | refine blk_alloc ?_ _)); refine blk_put (cs := #[.int .u8 t1270, .int .i64 0, .string (⟨#[]⟩ : ByteArray)]) ?_ 1 _ rfl; (with_reducible repeat (first | refine blk_drewN ?_ _ | refine blk_drew ?_ | refine blk_alloc ?_ _)); refine blk_put (cs := #[.int .u8 0, .int .i64 0, .string (⟨#[]⟩ : ByteArray)]) ?_ 0 _ rfl; (with_reducible repeat (first | refine blk_drewN ?_ _ | refine blk_drew ?_ | refine blk_alloc ?_ _)); exact BK1276.out) hb); have n3_ := Aside0.mk (blk_below (g := gb1277) (o := .cells #[.int .u8 t1273, .int .i64 t1274, .string t1275] 39 (0, 0)) (by (with_reducible repeat (first | refine blk_drewN ?_ _ | refine blk_drew ?_ | refine blk_alloc ?_ _)); refine blk_put (cs := #[.int .u8 t1273, .int .i64 t1274, .string (⟨#[]⟩ : ByteArray)]) ?_ 2 _ rfl; (with_reducible repeat (first | refine blk_drewN ?_ _ | refine blk_drew ?_ | refine blk_alloc ?_ _)); refine blk_put (cs := #[.int .u8 t1273, .int .i64 0, .string (⟨#[]⟩ : ByteArray)]) ?_ 1 _ rfl; (with_reducible repeat (first | refine blk_drewN ?_ _ | refine blk_drew ?_ | refine blk_alloc ?_ _)); refine blk_put (cs := #[.int .u8 0, .int .i64 0, .string (⟨#[]⟩ : ByteArray)]) ?_ 0 _ rfl; (with_reducible repeat (first | refine blk_drewN ?_ _ | refine blk_drew ?_ | refine blk_alloc ?_ _)); refine blk_far ?_ NB1277_1276.out _; (with_reducible repeat (first | refine blk_drewN ?_ _ | refine blk_drew ?_ | refine blk_alloc ?_ _)); refine blk_far ?_ NB1277_1276.out _; (with_reducible repeat (first | refine blk_drewN ?_ _ | refine blk_drew ?_ | refine blk_alloc ?_ _)); refine blk_far ?_ NB1277_1276.out _; (with_reducible repeat (first | refine blk_drewN ?_ _ | refine blk_drew ?_ | refine blk_alloc ?_ _)); exact BK1277.out) hb); have n4_ := Aside0.mk (below_step (by repeat (first | (with_reducible first | exact HB.out | apply below_alloc | apply pw_below_drewN | apply below_drew1 | refine below_set ?_ GE1256.out | refine below_set ?_ GE1257.out | refine below_set ?_ GE1276.out | refine below_set ?_ GE1277.out) | exact HB.out)) hb); clear BK1256; clear BK1257; clear BK1276; clear BK1277; clear HB; have BK1256 := n0_; have BK1257 := n1_; have BK1276 := n2_; have BK1277 := n3_; have HB := n4_; clear n0_ n1_ n2_ n3_ n4_; (try clear hb); (try clear hb2); (try clear hk); (try clear hi); have hcz129_0 : w128.cell? ⟨gb1257, 0, none⟩ = some (.int .u8 t1253) := (blk_cell BK1257.out 0).trans rfl; have hcz129_1 : w128.cell? ⟨gb1257, 1, none⟩ = some (.int .i64 t1254) := (blk_cell BK1257.out 1).trans rfl; have hcz129_2 : w128.cell? ⟨gb1257, 2, none⟩ = some (.string t1255) := (blk_cell BK1257.out 2).trans rfl; have hfz129_0 := blk_frozen BK1257.out 0; have hfz129_1 := blk_frozen BK1257.out 1; have hfz129_2 := blk_frozen BK1257.out 2; have hcz130_0 : w128.cell? ⟨gb1277, 0, none⟩ = some (.int .u8 t1273) := (blk_cell BK1277.out 0).trans rfl; have hcz130_1 : w128.cell? ⟨gb1277, 1, none⟩ = some (.int .i64 t1274) := (blk_cell BK1277.out 1).trans rfl; have hcz130_2 : w128.cell? ⟨gb1277, 2, none⟩ = some (.string t1275) := (blk_cell BK1277.out 2).trans rfl; have hfz130_0 := blk_frozen BK1277.out 0; have hfz130_1 := blk_frozen BK1277.out 1; have hfz130_2 := blk_frozen BK1277.out 2) | (go_at_call 64; (with_reducible refine (tidelineref03_Less.calls t1253 t1254 t1255 t1273 t1274 t1275 false _ A95.out).mono ?_); rintro e w131 ⟨rfl, hb⟩; have n0_ := Aside0.mk (blk_below (g := gb1256) (o := .cells #[.int .u8 t1250, .int .i64 t1251, .string t1252] 39 (0, 0)) (by (with_reducible repeat (first | refine blk_drewN ?_ _ | refine blk_drew ?_ | refine blk_alloc ?_ _)); exact BK1256.out) hb); have n1_ := Aside0.mk (blk_below (g := gb1257) (o := .cells #[.int .u8 t1253, .int .i64 t1254, .string t1255] 39 (0, 0)) (by (with_reducible repeat (first | refine blk_drewN ?_ _ | refine blk_drew ?_ | refine blk_alloc ?_ _)); exact BK1257.out) hb); have n2_ := Aside0.mk (blk_below (g := gb1276) (o := .cells #[.int .u8 t1270, .int .i64 t1271, .string t1272] 39 (0, 0)) (by (with_reducible repeat (first | refine blk_drewN ?_ _ | refine blk_drew ?_ | refine blk_alloc ?_ _)); exact BK1276.out) hb); have n3_ := Aside0.mk (blk_below (g := gb1277) (o := .cells #[.int .u8 t1273, .int .i64 t1274, .string t1275] 39 (0, 0)) (by (with_reducible repeat (first | refine blk_drewN ?_ _ | refine blk_drew ?_ | refine blk_alloc ?_ _)); exact BK1277.out) hb); have n4_ := Aside0.mk (below_step (by repeat (first | (with_reducible first | exact HB.out | apply below_alloc | apply pw_below_drewN | apply below_drew1 | refine below_set ?_ GE1256.out | refine below_set ?_ GE1257.out | refine below_set ?_ GE1276.out | refine below_set ?_ GE1277.out) | exact HB.out)) hb); clear BK1256; clear BK1257; clear BK1276; clear BK1277; clear HB; have BK1256 := n0_; have BK1257 := n1_; have BK1276 := n2_; have BK1277 := n3_; have HB := n4_; clear n0_ n1_ n2_ n3_ n4_; (try clear hb); (try clear hb2); (try clear hk); (try clear hi)) | (go_at_call 57; (with_reducible refine (tidelinelaw06_puts.calls  t1281 _ A114.out).mono ?_); rintro e w132 ⟨rfl, hb⟩; have n0_ := Aside0.mk (blk_below (g := gb1256) (o := .cells #[.int .u8 t1250, .int .i64 t1251, .string t1252] 39 (0, 0)) (by (with_reducible repeat (first | refine blk_drewN ?_ _ | refine blk_drew ?_ | refine blk_alloc ?_ _)); exact BK1256.out) hb); have n1_ := Aside0.mk (blk_below (g := gb1257) (o := .cells #[.int .u8 t1253, .int .i64 t1254, .string t1255] 39 (0, 0)) (by (with_reducible repeat (first | refine blk_drewN ?_ _ | refine blk_drew ?_ | refine blk_alloc ?_ _)); exact BK1257.out) hb); have n2_ := Aside0.mk (blk_below (g := gb1276) (o := .cells #[.int .u8 t1270, .int .i64 t1271, .string t1272] 39 (0, 0)) (by (with_reducible repeat (first | refine blk_drewN ?_ _ | refine blk_drew ?_ | refine blk_alloc ?_ _)); exact BK1276.out) hb); have n3_ := Aside0.mk (blk_below (g := gb1277) (o := .cells #[.int .u8 t1273, .int .i64 t1274, .string t1275] 39 (0, 0)) (by (with_reducible repeat (first | refine blk_drewN ?_ _ | refine blk_drew ?_ | refine blk_alloc ?_ _)); exact BK1277.out) hb); have n4_ := Aside0.mk (below_step (by repeat (first | (with_reducible first | exact HB.out | apply below_alloc | apply pw_below_drewN | apply below_drew1 | refine below_set ?_ GE1256.out | refine below_set ?_ GE1257.out | refine below_set ?_ GE1276.out | refine below_set ?_ GE1277.out) | exact HB.out)) hb); clear BK1256; clear BK1257; clear BK1276; clear BK1277; clear HB; have BK1256 := n0_; have BK1257 := n1_; have BK1276 := n2_; have BK1277 := n3_; have HB := n4_; clear n0_ n1_ n2_ n3_ n4_; (try clear hb); (try clear hb2); (try clear hk); (try clear hi)))
                                    go_ret
                                    exact ⟨by first | rfl | (simp [errW_none, errW_some] <;> rfl) | (simp [*, errW_none, errW_some] <;> rfl), by repeat (first | (with_reducible first | exact HB.out | apply below_alloc | apply pw_below_drewN | apply below_drew1 | refine below_set ?_ GE1256.out | refine below_set ?_ GE1257.out | refine below_set ?_ GE1276.out | refine below_set ?_ GE1277.out) | exact HB.out)⟩
                            · replace c64 := Bool.eq_false_iff.mpr c64
                              subst c64
                              have H1 : (some false) = some r := by rw [if_neg (show ¬ (false = true) by decide)] at H; exact H
                              clear H
                              have H := H1
                              clear H1
                              obtain rfl := Option.some.inj H
                              have q133 : (x13_57 : Int) ≤ ((l1.length : Int) : Int) := of_decide_eq_true (by first | (with_reducible assumption) | assumption)
                              obtain ⟨i0133, hi0133, _, hsz133, _⟩ := info_parts info39
                              have hroom133 : l1.length ≤ c1 := HC1.out
                              have hC133 : Kd.C k39 _ A1 l1.length l1 := HR1.out
                              have hcut133 := Go.Proofs.YtlmcefhpnfoahaaW.PrintWords.cut_to (P := Try.prog) 23 39 .i64 Try.underlying23 hi0133 A1 l1.length c1 x13_57 (of_decide_eq_true (by first | (with_reducible assumption) | assumption)) q133 hroom133
                              have hr133 := Kd.C_take (m := (x13_57 : Int).toNat) hC133 (by omega)
                              have hy133 : y1266.length = (x13_57 : Int).toNat := (by rw [Ny1266.out, List.length_take]; omega)
                              rw [← Ny1266.out] at hr133
                              rw [← hy133] at hcut133
                              have HR1269 := Aside0.mk hr133
                              have HC1269 := Aside0.mk (show y1266.length ≤ c1 from by omega)
                              clear hr133 hC133 hroom133 hi0133 hsz133
                              have KY133 := Aside0.mk hy133
                              clear hy133
                              replace q133 := eq_true q133
                              go_wp2_with (first | ((with_reducible refine gate_callee (f := 62) rfl ?_); refine goesL_ (some 104) rfl rfl Try.func62 (by kernel_rfl) rfl #[.slice A1 y1266.length c1] rfl (by (try simp only [List.map_toArray, List.map_cons, List.map_nil]); first | done | rfl | (simp only [List.length_drop, List.length_take]; rfl)) ?_; (with_reducible refine (column_Bounds.calls kj57 _ _ y1266 t1270 t1271 t1272 t1273 t1274 t1275 _ ?side1 ?side2 A62.out).mono ?_); (case side1 => repeat (first | exact (Kd.C_below HR1269.out HB.out) | (with_reducible refine Kd.C_alloc ?_ _) | (with_reducible refine Kd.C_drewN ?_ _) | (with_reducible refine Kd.C_drew ?_))); (case side2 => exact HC1269.out); rintro e w134 ⟨rfl, hb⟩; refine ⟨_, rfl, ?_⟩; have n0_ := Aside0.mk (blk_below (g := gb1256) (o := .cells #[.int .u8 t1250, .int .i64 t1251, .string t1252] 39 (0, 0)) (by (with_reducible repeat (first | refine blk_drewN ?_ _ | refine blk_drew ?_ | refine blk_alloc ?_ _)); exact BK1256.out) hb); have n1_ := Aside0.mk (blk_below (g := gb1257) (o := .cells #[.int .u8 t1253, .int .i64 t1254, .string t1255] 39 (0, 0)) (by (with_reducible repeat (first | refine blk_drewN ?_ _ | refine blk_drew ?_ | refine blk_alloc ?_ _)); exact BK1257.out) hb); have n2_ := Aside0.mk (below_step (by repeat (first | (with_reducible first | exact HB.out | apply below_alloc | apply pw_below_drewN | apply below_drew1 | refine below_set ?_ GE1256.out | refine below_set ?_ GE1257.out) | exact HB.out)) hb); clear BK1256; clear BK1257; clear HB; have BK1256 := n0_; have BK1257 := n1_; have HB := n2_; clear n0_ n1_ n2_; (try clear hb); (try clear hb2); (try clear hk); (try clear hi)) | ((with_reducible refine gate_dst (N := 14) rfl ?_); refine box_event ?hg (N := 14) ?hd (cs := #[.int .u8 0, .int .i64 0, .string (⟨#[]⟩ : ByteArray)]) (t := 39) ?hr ?_; (case hd => rfl); (case hg => rfl); (case hr => first | (go_simp; done) | (go_simp; rfl)); intro gb1276 hg w135 hbox hb; have n0_ := Aside0.mk (blk_below (g := gb1256) (o := .cells #[.int .u8 t1250, .int .i64 t1251, .string t1252] 39 (0, 0)) (by (with_reducible repeat (first | refine blk_drewN ?_ _ | refine blk_drew ?_ | refine blk_alloc ?_ _)); exact BK1256.out) hb); have n1_ := Aside0.mk (blk_below (g := gb1257) (o := .cells #[.int .u8 t1253, .int .i64 t1254, .string t1255] 39 (0, 0)) (by (with_reducible repeat (first | refine blk_drewN ?_ _ | refine blk_drew ?_ | refine blk_alloc ?_ _)); exact BK1257.out) hb); have n2_ := Aside0.mk (below_step (by repeat (first | (with_reducible first | exact HB.out | apply below_alloc | apply pw_below_drewN | apply below_drew1 | refine below_set ?_ GE1256.out | refine below_set ?_ GE1257.out) | exact HB.out)) hb); have n3_ := Aside0.mk (hbox); have n4_ := Aside0.mk ((by rw [hg]; exact (below_size (by repeat (first | (with_reducible first | exact HB.out | apply below_alloc | apply pw_below_drewN | apply below_drew1 | refine below_set ?_ GE1256.out | refine below_set ?_ GE1257.out) | exact HB.out))) : w.heap.size ≤ gb1276)); have n5_ := Aside0.mk ((by rw [hg]; exact (below_size (by repeat (first | (with_reducible first | exact HB.out | apply below_alloc | apply pw_below_drewN | apply below_drew1 | refine below_set ?_ GE1256.out | refine below_set ?_ GE1257.out) | exact HB.out))) : w.heap.size ≤ gb1276)); have n6_ := Aside0.mk ((by rw [hg]; exact Nat.ne_of_lt (blk_lt (g := gb1256) (o := .cells #[.int .u8 t1250, .int .i64 t1251, .string t1252] 39 (0, 0)) (by (with_reducible repeat (first | refine blk_drewN ?_ _ | refine blk_drew ?_ | refine blk_alloc ?_ _)); exact BK1256.out)) : gb1256 ≠ gb1276)); have n7_ := Aside0.mk ((by rw [hg]; exact Nat.ne_of_gt (blk_lt (g := gb1256) (o := .cells #[.int .u8 t1250, .int .i64 t1251, .string t1252] 39 (0, 0)) (by (with_reducible repeat (first | refine blk_drewN ?_ _ | refine blk_drew ?_ | refine blk_alloc ?_ _)); exact BK1256.out)) : gb1276 ≠ gb1256)); have n8_ := Aside0.mk ((by rw [hg]; exact Nat.ne_of_lt (blk_lt (g := gb1257) (o := .cells #[.int .u8 t1253, .int .i64 t1254, .string t1255] 39 (0, 0)) (by (with_reducible repeat (first | refine blk_drewN ?_ _ | refine blk_drew ?_ | refine blk_alloc ?_ _)); exact BK1257.out)) : gb1257 ≠ gb1276)); have n9_ := Aside0.mk ((by rw [hg]; exact Nat.ne_of_gt (blk_lt (g := gb1257) (o := .cells #[.int .u8 t1253, .int .i64 t1254, .string t1255] 39 (0, 0)) (by (with_reducible repeat (first | refine blk_drewN ?_ _ | refine blk_drew ?_ | refine blk_alloc ?_ _)); exact BK1257.out)) : gb1276 ≠ gb1257)); clear BK1256; clear BK1257; clear HB; have BK1256 := n0_; have BK1257 := n1_; have HB := n2_; have BK1276 := n3_; have GW1276 := n4_; have GE1276 := n5_; have NB1256_1276 := n6_; have NB1276_1256 := n7_; have NB1257_1276 := n8_; have NB1276_1257 := n9_; clear n0_ n1_ n2_ n3_ n4_ n5_ n6_ n7_ n8_ n9_; clear hb hbox hg) | ((with_reducible refine gate_dst (N := 15) rfl ?_); refine box_event ?hg (N := 15) ?hd (cs := #[.int .u8 0, .int .i64 0, .string (⟨#[]⟩ : ByteArray)]) (t := 39) ?hr ?_; (case hd => rfl); (case hg => rfl); (case hr => first | (go_simp; done) | (go_simp; rfl)); intro gb1277 hg w136 hbox hb; have n0_ := Aside0.mk (blk_below (g := gb1256) (o := .cells #[.int .u8 t1250, .int .i64 t1251, .string t1252] 39 (0, 0)) (by (with_reducible repeat (first | refine blk_drewN ?_ _ | refine blk_drew ?_ | refine blk_alloc ?_ _)); exact BK1256.out) hb); have n1_ := Aside0.mk (blk_below (g := gb1257) (o := .cells #[.int .u8 t1253, .int .i64 t1254, .string t1255] 39 (0, 0)) (by (with_reducible repeat (first | refine blk_drewN ?_ _ | refine blk_drew ?_ | refine blk_alloc ?_ _)); exact BK1257.out) hb); have n2_ := Aside0.mk (blk_below (g := gb1276) (o := .cells #[.int .u8 0, .int .i64 0, .string (⟨#[]⟩ : ByteArray)] 39 (0, 0)) (by (with_reducible repeat (first | refine blk_drewN ?_ _ | refine blk_drew ?_ | refine blk_alloc ?_ _)); exact BK1276.out) hb); have n3_ := Aside0.mk (below_step (by repeat (first | (with_reducible first | exact HB.out | apply below_alloc | apply pw_below_drewN | apply below_drew1 | refine below_set ?_ GE1256.out | refine below_set ?_ GE1257.out | refine below_set ?_ GE1276.out) | exact HB.out)) hb); have n4_ := Aside0.mk (hbox); have n5_ := Aside0.mk ((by rw [hg]; exact (below_size (by repeat (first | (with_reducible first | exact HB.out | apply below_alloc | apply pw_below_drewN | apply below_drew1 | refine below_set ?_ GE1256.out | refine below_set ?_ GE1257.out | refine below_set ?_ GE1276.out) | exact HB.out))) : w.heap.size ≤ gb1277)); have n6_ := Aside0.mk ((by rw [hg]; exact (below_size (by repeat (first | (with_reducible first | exact HB.out | apply below_alloc | apply pw_below_drewN | apply below_drew1 | refine below_set ?_ GE1256.out | refine below_set ?_ GE1257.out | refine below_set ?_ GE1276.out) | exact HB.out))) : w.heap.size ≤ gb1277)); have n7_ := Aside0.mk ((by rw [hg]; exact Nat.ne_of_lt (blk_lt (g := gb1256) (o := .cells #[.int .u8 t1250, .int .i64 t1251, .string t1252] 39 (0, 0)) (by (with_reducible repeat (first | refine blk_drewN ?_ _ | refine blk_drew ?_ | refine blk_alloc ?_ _)); exact BK1256.out)) : gb1256 ≠ gb1277)); have n8_ := Aside0.mk ((by rw [hg]; exact Nat.ne_of_gt (blk_lt (g := gb1256) (o := .cells #[.int .u8 t1250, .int .i64 t1251, .string t1252] 39 (0, 0)) (by (with_reducible repeat (first | refine blk_drewN ?_ _ | refine blk_drew ?_ | refine blk_alloc ?_ _)); exact BK1256.out)) : gb1277 ≠ gb1256)); have n9_ := Aside0.mk ((by rw [hg]; exact Nat.ne_of_lt (blk_lt (g := gb1257) (o := .cells #[.int .u8 t1253, .int .i64 t1254, .string t1255] 39 (0, 0)) (by (with_reducible repeat (first | refine blk_drewN ?_ _ | refine blk_drew ?_ | refine blk_alloc ?_ _)); exact BK1257.out)) : gb1257 ≠ gb1277)); have n10_ := Aside0.mk ((by rw [hg]; exact Nat.ne_of_gt (blk_lt (g := gb1257) (o := .cells #[.int .u8 t1253, .int .i64 t1254, .string t1255] 39 (0, 0)) (by (with_reducible repeat (first | refine blk_drewN ?_ _ | refine blk_drew ?_ | refine blk_alloc ?_ _)); exact BK1257.out)) : gb1277 ≠ gb1257)); have n11_ := Aside0.mk ((by rw [hg]; exact Nat.ne_of_lt (blk_lt (g := gb1276) (o := .cells #[.int .u8 0, .int .i64 0, .string (⟨#[]⟩ : ByteArray)] 39 (0, 0)) (by (with_reducible repeat (first | refine blk_drewN ?_ _ | refine blk_drew ?_ | refine blk_alloc ?_ _)); exact BK1276.out)) : gb1276 ≠ gb1277)); have n12_ := Aside0.mk ((by rw [hg]; exact Nat.ne_of_gt (blk_lt (g := gb1276) (o := .cells #[.int .u8 0, .int .i64 0, .string (⟨#[]⟩ : ByteArray)] 39 (0, 0)) (by (with_reducible repeat (first | refine blk_drewN ?_ _ | refine blk_drew ?_ | refine blk_alloc ?_ _)); exact BK1276.out)) : gb1277 ≠ gb1276)); clear BK1256; clear BK1257; clear BK1276; clear HB; have BK1256 := n0_; have BK1257 := n1_; have BK1276 := n2_; have HB := n3_; have BK1277 := n4_; have GW1277 := n5_; have GE1277 := n6_; have NB1256_1277 := n7_; have NB1277_1256 := n8_; have NB1257_1277 := n9_; have NB1277_1257 := n10_; have NB1276_1277 := n11_; have NB1277_1276 := n12_; clear n0_ n1_ n2_ n3_ n4_ n5_ n6_ n7_ n8_ n9_ n10_ n11_ n12_; clear hb hbox hg; have hnb137 := NB1276_1256.out; have hnc137 := NB1256_1276.out; have hnb138 := NB1276_1257.out; have hnc138 := NB1257_1276.out; have hnb139 := NB1276_1277.out; have hnc139 := NB1277_1276.out; have hcz140_0 : w136.cell? ⟨gb1276, 0, none⟩ = some (.int .u8 0) := (blk_cell BK1276.out 0).trans rfl; have hcz140_1 : w136.cell? ⟨gb1276, 1, none⟩ = some (.int .i64 0) := (blk_cell BK1276.out 1).trans rfl; have hcz140_2 : w136.cell? ⟨gb1276, 2, none⟩ = some (.string (⟨#[]⟩ : ByteArray)) := (blk_cell BK1276.out 2).trans rfl; have hfz140_0 := blk_frozen BK1276.out 0; have hfz140_1 := blk_frozen BK1276.out 1; have hfz140_2 := blk_frozen BK1276.out 2; have hnb141 := NB1277_1256.out; have hnc141 := NB1256_1277.out; have hnb142 := NB1277_1257.out; have hnc142 := NB1257_1277.out; have hcz143_0 : w136.cell? ⟨gb1277, 0, none⟩ = some (.int .u8 0) := (blk_cell BK1277.out 0).trans rfl; have hcz143_1 : w136.cell? ⟨gb1277, 1, none⟩ = some (.int .i64 0) := (blk_cell BK1277.out 1).trans rfl; have hcz143_2 : w136.cell? ⟨gb1277, 2, none⟩ = some (.string (⟨#[]⟩ : ByteArray)) := (blk_cell BK1277.out 2).trans rfl; have hfz143_0 := blk_frozen BK1277.out 0; have hfz143_1 := blk_frozen BK1277.out 1; have hfz143_2 := blk_frozen BK1277.out 2))
                              go_ret
                              exact ⟨by first | rfl | (simp [errW_none, errW_some] <;> rfl) | (simp [*, errW_none, errW_some] <;> rfl), by repeat (first | (with_reducible first | exact HB.out | apply below_alloc | apply pw_below_drewN | apply below_drew1 | refine below_set ?_ GE1256.out | refine below_set ?_ GE1257.out | refine below_set ?_ GE1276.out | refine below_set ?_ GE1277.out) | exact HB.out)⟩
                          · replace c63 := Bool.eq_false_iff.mpr c63
                            subst c63
                            have H1 : (some false) = some r := by rw [if_neg (show ¬ (false = true) by decide)] at H; exact H
                            clear H
                            have H := H1
                            clear H1
                            obtain rfl := Option.some.inj H
                            have q144 : (x13_57 : Int) ≤ ((l1.length : Int) : Int) := of_decide_eq_true (by first | (with_reducible assumption) | assumption)
                            obtain ⟨i0144, hi0144, _, hsz144, _⟩ := info_parts info39
                            have hroom144 : l1.length ≤ c1 := HC1.out
                            have hC144 : Kd.C k39 _ A1 l1.length l1 := HR1.out
                            have hcut144 := Go.Proofs.YtlmcefhpnfoahaaW.PrintWords.cut_to (P := Try.prog) 23 39 .i64 Try.underlying23 hi0144 A1 l1.length c1 x13_57 (of_decide_eq_true (by first | (with_reducible assumption) | assumption)) q144 hroom144
                            have hr144 := Kd.C_take (m := (x13_57 : Int).toNat) hC144 (by omega)
                            have hy144 : y1266.length = (x13_57 : Int).toNat := (by rw [Ny1266.out, List.length_take]; omega)
                            rw [← Ny1266.out] at hr144
                            rw [← hy144] at hcut144
                            have HR1269 := Aside0.mk hr144
                            have HC1269 := Aside0.mk (show y1266.length ≤ c1 from by omega)
                            clear hr144 hC144 hroom144 hi0144 hsz144
                            have KY144 := Aside0.mk hy144
                            clear hy144
                            replace q144 := eq_true q144
                            go_wp2_with (first | ((with_reducible refine gate_callee (f := 62) rfl ?_); refine goesL_ (some 104) rfl rfl Try.func62 (by kernel_rfl) rfl #[.slice A1 y1266.length c1] rfl (by (try simp only [List.map_toArray, List.map_cons, List.map_nil]); first | done | rfl | (simp only [List.length_drop, List.length_take]; rfl)) ?_; (with_reducible refine (column_Bounds.calls kj57 _ _ y1266 t1270 t1271 t1272 t1273 t1274 t1275 _ ?side1 ?side2 A62.out).mono ?_); (case side1 => repeat (first | exact (Kd.C_below HR1269.out HB.out) | (with_reducible refine Kd.C_alloc ?_ _) | (with_reducible refine Kd.C_drewN ?_ _) | (with_reducible refine Kd.C_drew ?_))); (case side2 => exact HC1269.out); rintro e w145 ⟨rfl, hb⟩; refine ⟨_, rfl, ?_⟩; have n0_ := Aside0.mk (blk_below (g := gb1256) (o := .cells #[.int .u8 t1250, .int .i64 t1251, .string t1252] 39 (0, 0)) (by (with_reducible repeat (first | refine blk_drewN ?_ _ | refine blk_drew ?_ | refine blk_alloc ?_ _)); exact BK1256.out) hb); have n1_ := Aside0.mk (blk_below (g := gb1257) (o := .cells #[.int .u8 t1253, .int .i64 t1254, .string t1255] 39 (0, 0)) (by (with_reducible repeat (first | refine blk_drewN ?_ _ | refine blk_drew ?_ | refine blk_alloc ?_ _)); exact BK1257.out) hb); have n2_ := Aside0.mk (below_step (by repeat (first | (with_reducible first | exact HB.out | apply below_alloc | apply pw_below_drewN | apply below_drew1 | refine below_set ?_ GE1256.out | refine below_set ?_ GE1257.out) | exact HB.out)) hb); clear BK1256; clear BK1257; clear HB; have BK1256 := n0_; have BK1257 := n1_; have HB := n2_; clear n0_ n1_ n2_; (try clear hb); (try clear hb2); (try clear hk); (try clear hi)) | ((with_reducible refine gate_dst (N := 14) rfl ?_); refine box_event ?hg (N := 14) ?hd (cs := #[.int .u8 0, .int .i64 0, .string (⟨#[]⟩ : ByteArray)]) (t := 39) ?hr ?_; (case hd => rfl); (case hg => rfl); (case hr => first | (go_simp; done) | (go_simp; rfl)); intro gb1276 hg w146 hbox hb; have n0_ := Aside0.mk (blk_below (g := gb1256) (o := .cells #[.int .u8 t1250, .int .i64 t1251, .string t1252] 39 (0, 0)) (by (with_reducible repeat (first | refine blk_drewN ?_ _ | refine blk_drew ?_ | refine blk_alloc ?_ _)); exact BK1256.out) hb); have n1_ := Aside0.mk (blk_below (g := gb1257) (o := .cells #[.int .u8 t1253, .int .i64 t1254, .string t1255] 39 (0, 0)) (by (with_reducible repeat (first | refine blk_drewN ?_ _ | refine blk_drew ?_ | refine blk_alloc ?_ _)); exact BK1257.out) hb); have n2_ := Aside0.mk (below_step (by repeat (first | (with_reducible first | exact HB.out | apply below_alloc | apply pw_below_drewN | apply below_drew1 | refine below_set ?_ GE1256.out | refine below_set ?_ GE1257.out) | exact HB.out)) hb); have n3_ := Aside0.mk (hbox); have n4_ := Aside0.mk ((by rw [hg]; exact (below_size (by repeat (first | (with_reducible first | exact HB.out | apply below_alloc | apply pw_below_drewN | apply below_drew1 | refine below_set ?_ GE1256.out | refine below_set ?_ GE1257.out) | exact HB.out))) : w.heap.size ≤ gb1276)); have n5_ := Aside0.mk ((by rw [hg]; exact (below_size (by repeat (first | (with_reducible first | exact HB.out | apply below_alloc | apply pw_below_drewN | apply below_drew1 | refine below_set ?_ GE1256.out | refine below_set ?_ GE1257.out) | exact HB.out))) : w.heap.size ≤ gb1276)); have n6_ := Aside0.mk ((by rw [hg]; exact Nat.ne_of_lt (blk_lt (g := gb1256) (o := .cells #[.int .u8 t1250, .int .i64 t1251, .string t1252] 39 (0, 0)) (by (with_reducible repeat (first | refine blk_drewN ?_ _ | refine blk_drew ?_ | refine blk_alloc ?_ _)); exact BK1256.out)) : gb1256 ≠ gb1276)); have n7_ := Aside0.mk ((by rw [hg]; exact Nat.ne_of_gt (blk_lt (g := gb1256) (o := .cells #[.int .u8 t1250, .int .i64 t1251, .string t1252] 39 (0, 0)) (by (with_reducible repeat (first | refine blk_drewN ?_ _ | refine blk_drew ?_ | refine blk_alloc ?_ _)); exact BK1256.out)) : gb1276 ≠ gb1256)); have n8_ := Aside0.mk ((by rw [hg]; exact Nat.ne_of_lt (blk_lt (g := gb1257) (o := .cells #[.int .u8 t1253, .int .i64 t1254, .string t1255] 39 (0, 0)) (by (with_reducible repeat (first | refine blk_drewN ?_ _ | refine blk_drew ?_ | refine blk_alloc ?_ _)); exact BK1257.out)) : gb1257 ≠ gb1276)); have n9_ := Aside0.mk ((by rw [hg]; exact Nat.ne_of_gt (blk_lt (g := gb1257) (o := .cells #[.int .u8 t1253, .int .i64 t1254, .string t1255] 39 (0, 0)) (by (with_reducible repeat (first | refine blk_drewN ?_ _ | refine blk_drew ?_ | refine blk_alloc ?_ _)); exact BK1257.out)) : gb1276 ≠ gb1257)); clear BK1256; clear BK1257; clear HB; have BK1256 := n0_; have BK1257 := n1_; have HB := n2_; have BK1276 := n3_; have GW1276 := n4_; have GE1276 := n5_; have NB1256_1276 := n6_; have NB1276_1256 := n7_; have NB1257_1276 := n8_; have NB1276_1257 := n9_; clear n0_ n1_ n2_ n3_ n4_ n5_ n6_ n7_ n8_ n9_; clear hb hbox hg) | ((with_reducible refine gate_dst (N := 15) rfl ?_); refine box_event ?hg (N := 15) ?hd (cs := #[.int .u8 0, .int .i64 0, .string (⟨#[]⟩ : ByteArray)]) (t := 39) ?hr ?_; (case hd => rfl); (case hg => rfl); (case hr => first | (go_simp; done) | (go_simp; rfl)); intro gb1277 hg w147 hbox hb; have n0_ := Aside0.mk (blk_below (g := gb1256) (o := .cells #[.int .u8 t1250, .int .i64 t1251, .string t1252] 39 (0, 0)) (by (with_reducible repeat (first | refine blk_drewN ?_ _ | refine blk_drew ?_ | refine blk_alloc ?_ _)); exact BK1256.out) hb); have n1_ := Aside0.mk (blk_below (g := gb1257) (o := .cells #[.int .u8 t1253, .int .i64 t1254, .string t1255] 39 (0, 0)) (by (with_reducible repeat (first | refine blk_drewN ?_ _ | refine blk_drew ?_ | refine blk_alloc ?_ _)); exact BK1257.out) hb); have n2_ := Aside0.mk (blk_below (g := gb1276) (o := .cells #[.int .u8 0, .int .i64 0, .string (⟨#[]⟩ : ByteArray)] 39 (0, 0)) (by (with_reducible repeat (first | refine blk_drewN ?_ _ | refine blk_drew ?_ | refine blk_alloc ?_ _)); exact BK1276.out) hb); have n3_ := Aside0.mk (below_step (by repeat (first | (with_reducible first | exact HB.out | apply below_alloc | apply pw_below_drewN | apply below_drew1 | refine below_set ?_ GE1256.out | refine below_set ?_ GE1257.out | refine below_set ?_ GE1276.out) | exact HB.out)) hb); have n4_ := Aside0.mk (hbox); have n5_ := Aside0.mk ((by rw [hg]; exact (below_size (by repeat (first | (with_reducible first | exact HB.out | apply below_alloc | apply pw_below_drewN | apply below_drew1 | refine below_set ?_ GE1256.out | refine below_set ?_ GE1257.out | refine below_set ?_ GE1276.out) | exact HB.out))) : w.heap.size ≤ gb1277)); have n6_ := Aside0.mk ((by rw [hg]; exact (below_size (by repeat (first | (with_reducible first | exact HB.out | apply below_alloc | apply pw_below_drewN | apply below_drew1 | refine below_set ?_ GE1256.out | refine below_set ?_ GE1257.out | refine below_set ?_ GE1276.out) | exact HB.out))) : w.heap.size ≤ gb1277)); have n7_ := Aside0.mk ((by rw [hg]; exact Nat.ne_of_lt (blk_lt (g := gb1256) (o := .cells #[.int .u8 t1250, .int .i64 t1251, .string t1252] 39 (0, 0)) (by (with_reducible repeat (first | refine blk_drewN ?_ _ | refine blk_drew ?_ | refine blk_alloc ?_ _)); exact BK1256.out)) : gb1256 ≠ gb1277)); have n8_ := Aside0.mk ((by rw [hg]; exact Nat.ne_of_gt (blk_lt (g := gb1256) (o := .cells #[.int .u8 t1250, .int .i64 t1251, .string t1252] 39 (0, 0)) (by (with_reducible repeat (first | refine blk_drewN ?_ _ | refine blk_drew ?_ | refine blk_alloc ?_ _)); exact BK1256.out)) : gb1277 ≠ gb1256)); have n9_ := Aside0.mk ((by rw [hg]; exact Nat.ne_of_lt (blk_lt (g := gb1257) (o := .cells #[.int .u8 t1253, .int .i64 t1254, .string t1255] 39 (0, 0)) (by (with_reducible repeat (first | refine blk_drewN ?_ _ | refine blk_drew ?_ | refine blk_alloc ?_ _)); exact BK1257.out)) : gb1257 ≠ gb1277)); have n10_ := Aside0.mk ((by rw [hg]; exact Nat.ne_of_gt (blk_lt (g := gb1257) (o := .cells #[.int .u8 t1253, .int .i64 t1254, .string t1255] 39 (0, 0)) (by (with_reducible repeat (first | refine blk_drewN ?_ _ | refine blk_drew ?_ | refine blk_alloc ?_ _)); exact BK1257.out)) : gb1277 ≠ gb1257)); have n11_ := Aside0.mk ((by rw [hg]; exact Nat.ne_of_lt (blk_lt (g := gb1276) (o := .cells #[.int .u8 0, .int .i64 0, .string (⟨#[]⟩ : ByteArray)] 39 (0, 0)) (by (with_reducible repeat (first | refine blk_drewN ?_ _ | refine blk_drew ?_ | refine blk_alloc ?_ _)); exact BK1276.out)) : gb1276 ≠ gb1277)); have n12_ := Aside0.mk ((by rw [hg]; exact Nat.ne_of_gt (blk_lt (g := gb1276) (o := .cells #[.int .u8 0, .int .i64 0, .string (⟨#[]⟩ : ByteArray)] 39 (0, 0)) (by (with_reducible repeat (first | refine blk_drewN ?_ _ | refine blk_drew ?_ | refine blk_alloc ?_ _)); exact BK1276.out)) : gb1277 ≠ gb1276)); clear BK1256; clear BK1257; clear BK1276; clear HB; have BK1256 := n0_; have BK1257 := n1_; have BK1276 := n2_; have HB := n3_; have BK1277 := n4_; have GW1277 := n5_; have GE1277 := n6_; have NB1256_1277 := n7_; have NB1277_1256 := n8_; have NB1257_1277 := n9_; have NB1277_1257 := n10_; have NB1276_1277 := n11_; have NB1277_1276 := n12_; clear n0_ n1_ n2_ n3_ n4_ n5_ n6_ n7_ n8_ n9_ n10_ n11_ n12_; clear hb hbox hg; have hnb148 := NB1276_1256.out; have hnc148 := NB1256_1276.out; have hnb149 := NB1276_1257.out; have hnc149 := NB1257_1276.out; have hnb150 := NB1276_1277.out; have hnc150 := NB1277_1276.out; have hcz151_0 : w147.cell? ⟨gb1276, 0, none⟩ = some (.int .u8 0) := (blk_cell BK1276.out 0).trans rfl; have hcz151_1 : w147.cell? ⟨gb1276, 1, none⟩ = some (.int .i64 0) := (blk_cell BK1276.out 1).trans rfl; have hcz151_2 : w147.cell? ⟨gb1276, 2, none⟩ = some (.string (⟨#[]⟩ : ByteArray)) := (blk_cell BK1276.out 2).trans rfl; have hfz151_0 := blk_frozen BK1276.out 0; have hfz151_1 := blk_frozen BK1276.out 1; have hfz151_2 := blk_frozen BK1276.out 2; have hnb152 := NB1277_1256.out; have hnc152 := NB1256_1277.out; have hnb153 := NB1277_1257.out; have hnc153 := NB1257_1277.out; have hcz154_0 : w147.cell? ⟨gb1277, 0, none⟩ = some (.int .u8 0) := (blk_cell BK1277.out 0).trans rfl; have hcz154_1 : w147.cell? ⟨gb1277, 1, none⟩ = some (.int .i64 0) := (blk_cell BK1277.out 1).trans rfl; have hcz154_2 : w147.cell? ⟨gb1277, 2, none⟩ = some (.string (⟨#[]⟩ : ByteArray)) := (blk_cell BK1277.out 2).trans rfl; have hfz154_0 := blk_frozen BK1277.out 0; have hfz154_1 := blk_frozen BK1277.out 1; have hfz154_2 := blk_frozen BK1277.out 2))
                            go_ret
                            exact ⟨by first | rfl | (simp [errW_none, errW_some] <;> rfl) | (simp [*, errW_none, errW_some] <;> rfl), by repeat (first | (with_reducible first | exact HB.out | apply below_alloc | apply pw_below_drewN | apply below_drew1 | refine below_set ?_ GE1256.out | refine below_set ?_ GE1257.out | refine below_set ?_ GE1276.out | refine below_set ?_ GE1277.out) | exact HB.out)⟩
                        · rw [if_neg c61] at H
                          exact absurd H (by simp)
                      · rw [if_neg c60] at H
                        exact absurd H (by simp)

end Go.Proofs.Ytlmcefhpnfoahaa.P
end

section
namespace Go.Proofs.Ytlmcefhpnfoahaa.P
open Go.RowKit Go.Proofs.YtlmcefhpnfoahaaW.PrintWords Go.Proofs.YtlmcefhpnfoahaaW.PrintLast Go.Proofs.YtlmcefhpnfoahaaW.PrintMore
attribute [local go_sem] max2_int min2_int max_two min_two max_three min_three max_four min_four   -- for this text's walks alone
set_option linter.unusedVariables false
set_option linter.unusedSimpArgs false

end Go.Proofs.Ytlmcefhpnfoahaa.P
end

section
namespace Go.Proofs.Ytlmcefhpnfoahaa.P
open Go.RowKit Go.Proofs.YtlmcefhpnfoahaaW.PrintWords Go.Proofs.YtlmcefhpnfoahaaW.PrintLast Go.Proofs.YtlmcefhpnfoahaaW.PrintMore
set_option linter.unusedVariables false
set_option linter.unusedSimpArgs false

theorem num256_be8v (n : Int) (h0 : 0 ≤ n) (h1 : n < 18446744073709551616) : num256 ([56, 48, 40, 32, 24, 16, 8, 0].map fun j : Nat => n / 2 ^ j % 256) = n := by
  simp only [num256, List.map_cons, List.map_nil, List.foldl_cons, List.foldl_nil, Int.reducePow, Int.zero_mul, Int.zero_add, Int.pow_zero, Int.ediv_one]
  omega
/-- Less, byte for byte. -/
def lx : List Int → List Int → Bool
  | _, [] => false
  | [], _ :: _ => true
  | a :: x, b :: y => decide (a < b) || (decide (a = b) && lx x y)
theorem lx_pre : ∀ (p r s : List Int), lx (p ++ r) (p ++ s) = lx r s := by
  intro p
  induction p with
  | nil => intro r s; rfl
  | cons c t ih => intro r s; simp [lx, ih]
def u8s (l : List Int) : List UInt8 := l.map fun n => UInt8.ofNat n.toNat
theorem strOfNums_u8s (l : List Int) : (strOfNums l).toList = u8s l := by
  rw [ByteArray.toList_eq]
  rfl
theorem lx_bytes : ∀ (a b : List Int), (∀ x ∈ a, isByte x = true) → (∀ x ∈ b, isByte x = true) → Op.bytesLess (u8s a) (u8s b) = lx a b := by
  intro a
  induction a with
  | nil =>
    intro b _ _
    cases b <;> rfl
  | cons c t ih =>
    intro b ha hb
    rcases b with _ | ⟨d, u⟩
    · rfl
    · have hc := ha c (by simp)
      have hd := hb d (by simp)
      simp only [isByte, Bool.and_eq_true, decide_eq_true_eq] at hc hd
      have h1 := ih u (fun x hx => ha x (by simp [hx])) (fun x hx => hb x (by simp [hx]))
      show (decide (UInt8.ofNat c.toNat < UInt8.ofNat d.toNat) || (UInt8.ofNat c.toNat == UInt8.ofNat d.toNat && Op.bytesLess (u8s t) (u8s u))) = _
      rw [h1]
      have e1 : (UInt8.ofNat c.toNat < UInt8.ofNat d.toNat) ↔ c < d := by
        rw [UInt8.lt_iff_toNat_lt, UInt8.toNat_ofNat', UInt8.toNat_ofNat']
        omega
      have e2 : (UInt8.ofNat c.toNat == UInt8.ofNat d.toNat) = decide (c = d) := by
        rw [Bool.eq_iff_iff, beq_iff_eq, decide_eq_true_eq, ← UInt8.toNat_inj, UInt8.toNat_ofNat', UInt8.toNat_ofNat']
        omega
      rw [e2]
      simp only [lx, e1]
theorem lx_strs (a b : List Int) (ha : ∀ x ∈ a, isByte x = true) (hb : ∀ x ∈ b, isByte x = true) : Op.bytesLess (strOfNums a).toList (strOfNums b).toList = lx a b := by
  rw [strOfNums_u8s, strOfNums_u8s, lx_bytes a b ha hb]
theorem lx_texts (s t : ByteArray) : Op.bytesLess s.toList t.toList = lx (bytesOf s) (bytesOf t) := by
  rw [← lx_strs _ _ (bytesOf_isByte s) (bytesOf_isByte t), strOfNums_bytesOf, strOfNums_bytesOf]
theorem num256_from : ∀ (t : List Int) (u : Int), t.foldl (fun u c => u * 256 + c) u = u * 256 ^ t.length + num256 t := by
  intro t
  induction t with
  | nil => intro u; simp [num256]
  | cons c t ih =>
    intro u
    have h1 := ih (u * 256 + c)
    have h2 := ih (0 * 256 + c)
    unfold num256
    simp only [List.foldl_cons, List.length_cons]
    rw [h1, h2, Int.pow_succ]
    simp only [Int.add_mul, Int.mul_assoc, Int.mul_comm 256, Int.zero_mul]
    omega
theorem num256_cons (c : Int) (t : List Int) : num256 (c :: t) = c * 256 ^ t.length + num256 t := by
  have := num256_from t (0 * 256 + c)
  rw [show num256 (c :: t) = t.foldl (fun u c => u * 256 + c) (0 * 256 + c) from rfl, this]
  simp
theorem lx_num : ∀ (a b r s : List Int), a.length = b.length → (∀ x ∈ a, isByte x = true) → (∀ x ∈ b, isByte x = true) → a ≠ b → lx (a ++ r) (b ++ s) = decide (num256 a < num256 b) := by
  intro a
  induction a with
  | nil =>
    intro b r s hl _ _ hn
    exact absurd (List.eq_nil_of_length_eq_zero hl.symm).symm hn
  | cons c t ih =>
    intro b r s hl ha hb hn
    rcases b with _ | ⟨d, u⟩
    · simp at hl
    · simp only [List.length_cons, Nat.add_right_cancel_iff] at hl
      have hat : ∀ x ∈ t, isByte x = true := fun x hx => ha x (by simp [hx])
      have hbt : ∀ x ∈ u, isByte x = true := fun x hx => hb x (by simp [hx])
      have n1 := num256_lt t hat t.length (Nat.le_refl _)
      have n2 := num256_lt u hbt u.length (Nat.le_refl _)
      rw [List.take_length] at n1 n2
      rw [← hl] at n2
      rw [num256_cons, num256_cons, ← hl]
      show (decide (c < d) || (decide (c = d) && lx (t ++ r) (u ++ s))) = _
      generalize hP : (256 : Int) ^ t.length = P at n1 n2 ⊢
      by_cases hcd : c = d
      · subst hcd
        rw [ih u r s hl hat hbt (fun e => hn (by rw [e]))]
        simp
      · rw [decide_eq_false hcd]
        simp only [Bool.false_and, Bool.or_false]
        rw [decide_eq_decide]
        constructor
        · intro h
          have : (c + 1) * P ≤ d * P := Int.mul_le_mul_of_nonneg_right (by omega) (by omega)
          rw [Int.add_mul] at this
          omega
        · intro h
          by_cases h2 : d < c
          · have : (d + 1) * P ≤ c * P := Int.mul_le_mul_of_nonneg_right (by omega) (by omega)
            rw [Int.add_mul] at this
            omega
          · omega
theorem lx_esc (r s : List Int) : ∀ (a b : List Int), (∀ x ∈ a, isByte x = true) → (∀ x ∈ b, isByte x = true) → a ≠ b → lx (esc a ++ 0 :: 1 :: r) (esc b ++ 0 :: 1 :: s) = lx a b := by
  intro a
  induction a with
  | nil =>
    intro b _ hb hn
    rcases b with _ | ⟨d, u⟩
    · exact absurd rfl hn
    · have hd := hb d (by simp)
      simp only [isByte, Bool.and_eq_true, decide_eq_true_eq] at hd
      by_cases h0 : d = 0
      · subst h0
        simp [esc, lx]
      · have : (0 : Int) < d := by omega
        simp [esc, lx, h0, this]
  | cons c t ih =>
    intro b ha hb hn
    have hc := ha c (by simp)
    simp only [isByte, Bool.and_eq_true, decide_eq_true_eq] at hc
    rcases b with _ | ⟨d, u⟩
    · by_cases h0 : c = 0
      · subst h0
        simp [esc, lx]
      · have : ¬ c < 0 := by omega
        simp [esc, lx, h0, this]
    · have hd := hb d (by simp)
      simp only [isByte, Bool.and_eq_true, decide_eq_true_eq] at hd
      have hat : ∀ x ∈ t, isByte x = true := fun x hx => ha x (by simp [hx])
      have hbt : ∀ x ∈ u, isByte x = true := fun x hx => hb x (by simp [hx])
      by_cases hcd : c = d
      · subst hcd
        have htu : t ≠ u := fun e => hn (by rw [e])
        have := ih u hat hbt htu
        by_cases h0 : c = 0
        · subst h0
          simp [esc, lx, this]
        · simp [esc, lx, h0, this]
      · by_cases h0 : c = 0
        · subst h0
          have h1 : ¬ d = 0 := fun e => hcd e.symm
          have h2 : (0 : Int) < d := by omega
          simp [esc, lx, h1, h2]
        · by_cases h1 : d = 0
          · subst h1
            have h2 : ¬ c < 0 := by omega
            simp [esc, lx, h0, h2]
          · simp [esc, lx, h0, h1, hcd]
/-- Less, value by value. -/
def lessV (x y : S39) : Bool := if x.f0 = y.f0 then (if x.f0 = 3 then Op.bytesLess x.f2.toList y.f2.toList else decide (x.f1 < y.f1)) else decide (x.f0 < y.f0)
theorem refLess (x y : S39) : tidelineref03_Less.f x.f0 x.f1 x.f2 y.f0 y.f1 y.f2 = some (lessV x y) := by
  unfold tidelineref03_Less.f lessV
  split
  · split <;> rfl
  · rfl
theorem encV_head (x : S39) (hm : mayB x = true) : ∃ t, encV x = (x.f0 + 1) :: t := by
  obtain ⟨x0, x1, x2⟩ := x
  simp only [mayB, Bool.or_eq_true, Bool.and_eq_true, beq_iff_eq] at hm
  rcases hm with ((⟨⟨rfl, rfl⟩, h⟩ | ⟨⟨rfl, h1⟩, h⟩) | ⟨rfl, h⟩) | ⟨rfl, rfl⟩ <;> exact ⟨_, rfl⟩
theorem lx_encV (x y : S39) (hx : mayB x = true) (hy : mayB y = true) (nx : okNum x = true) (ny : okNum y = true) (hn : x ≠ y) (r s : List Int) : lx (encV x ++ r) (encV y ++ s) = lessV x y := by
  by_cases h0 : x.f0 = y.f0
  · obtain ⟨x0, x1, x2⟩ := x
    obtain ⟨y0, y1, y2⟩ := y
    simp only at h0
    subst h0
    simp only [okNum, Bool.and_eq_true, decide_eq_true_eq] at nx ny
    simp only [mayB, Bool.or_eq_true, Bool.and_eq_true, beq_iff_eq] at hx hy
    rcases hx with ((⟨⟨rfl, rfl⟩, h⟩ | ⟨⟨rfl, h1⟩, h⟩) | ⟨rfl, h⟩) | ⟨rfl, rfl⟩
    · rcases hy with ((⟨⟨g0, rfl⟩, g⟩ | ⟨⟨g0, g1⟩, g⟩) | ⟨g0, g⟩) | ⟨g0, rfl⟩ <;> try (exact absurd g0 (by decide))
      rw [empty_of _ h, empty_of _ g] at hn
      exact absurd rfl hn
    · rcases hy with ((⟨⟨g0, rfl⟩, g⟩ | ⟨⟨g0, g1⟩, g⟩) | ⟨g0, g⟩) | ⟨g0, rfl⟩ <;> try (exact absurd g0 (by decide))
      obtain rfl := empty_of _ h
      obtain rfl := empty_of _ g
      rcases h1 with rfl | rfl <;> rcases g1 with rfl | rfl <;> first | exact absurd rfl hn | rfl
    · rcases hy with ((⟨⟨g0, rfl⟩, g⟩ | ⟨⟨g0, g1⟩, g⟩) | ⟨g0, g⟩) | ⟨g0, rfl⟩ <;> try (exact absurd g0 (by decide))
      obtain rfl := empty_of _ h
      obtain rfl := empty_of _ g
      have hne : x1 ≠ y1 := fun e => hn (by rw [e])
      show lx (3 :: be8 x1 ++ r) (3 :: be8 y1 ++ s) = decide (x1 < y1)
      have e : lx (3 :: be8 x1 ++ r) (3 :: be8 y1 ++ s) = lx (be8 x1 ++ r) (be8 y1 ++ s) := by simp [lx]
      have v1 : num256 (be8 x1) = x1 + 9223372036854775808 := num256_be8v _ (by omega) (by omega)
      have v2 : num256 (be8 y1) = y1 + 9223372036854775808 := num256_be8v _ (by omega) (by omega)
      have hb : ∀ n : Int, ∀ c ∈ be8 n, isByte c = true := by
        intro n c h
        unfold be8 at h
        obtain ⟨j, _, rfl⟩ := List.mem_map.mp h
        simp only [isByte, Bool.and_eq_true, decide_eq_true_eq]
        omega
      rw [e, lx_num (be8 x1) (be8 y1) _ _ ((be8_length x1).trans (be8_length y1).symm) (hb x1) (hb y1) (fun e => hne (by rw [e] at v1; omega)), v1, v2, decide_eq_decide]
      omega
    · rcases hy with ((⟨⟨g0, rfl⟩, g⟩ | ⟨⟨g0, g1⟩, g⟩) | ⟨g0, g⟩) | ⟨g0, rfl⟩ <;> try (exact absurd g0 (by decide))
      show lx (4 :: (esc (bytesOf x2) ++ [0, 1]) ++ r) (4 :: (esc (bytesOf y2) ++ [0, 1]) ++ s) = Op.bytesLess x2.toList y2.toList
      have hne : bytesOf x2 ≠ bytesOf y2 := fun e => hn (by rw [← strOfNums_bytesOf x2, e, strOfNums_bytesOf])
      rw [lx_texts, ← lx_esc r s _ _ (bytesOf_isByte x2) (bytesOf_isByte y2) hne]
      simp [lx]
  · obtain ⟨t, ht⟩ := encV_head x hx
    obtain ⟨u, hu⟩ := encV_head y hy
    rw [ht, hu]
    unfold lessV
    rw [if_neg h0]
    have e1 : ¬ x.f0 + 1 = y.f0 + 1 := by omega
    have e2 : (x.f0 + 1 < y.f0 + 1) ↔ (x.f0 < y.f0) := by omega
    simp [lx, e1, e2, h0]
end Go.Proofs.Ytlmcefhpnfoahaa.P
end

section
namespace Go.Proofs.Ytlmcefhpnfoahaa.P
open Go.RowKit Go.Proofs.YtlmcefhpnfoahaaW.PrintWords Go.Proofs.YtlmcefhpnfoahaaW.PrintLast Go.Proofs.YtlmcefhpnfoahaaW.PrintMore
set_option linter.unusedVariables false
set_option linter.unusedSimpArgs false

theorem cmp_less : ∀ a b : List UInt8, decide (Lib.compareBytes a b < 0) = Op.bytesLess a b := by
  intro a
  induction a with
  | nil => intro b; cases b <;> rfl
  | cons x t ih =>
    intro b
    rcases b with _ | ⟨y, u⟩
    · rfl
    · show decide ((if x < y then (-1 : Int) else if y < x then 1 else Lib.compareBytes t u) < 0) = (decide (x < y) || (x == y && Op.bytesLess t u))
      by_cases h1 : x < y
      · rw [if_pos h1, decide_eq_true h1]; rfl
      · rw [if_neg h1, decide_eq_false h1, Bool.false_or]
        by_cases h2 : y < x
        · have h3 : (x == y) = false := by
            rw [Bool.eq_false_iff]
            intro h
            have := beq_iff_eq.mp h
            subst this
            exact h1 h2
          rw [if_pos h2, h3]; rfl
        · have h3 : x = y := by
            rw [UInt8.lt_iff_toNat_lt] at h1 h2
            rw [← UInt8.toNat_inj]; omega
          rw [if_neg h2, ih u, h3]; simp
def okM (x : S39) : Prop := mayB x = true ∧ okNum x = true ∧ x.f2.size ≤ 400000
theorem encV_bytesb (x : S39) : ∀ c ∈ encV x, isByte c = true := by
  have hmod : ∀ n : Int, isByte (n % 256) = true := by
    intro n
    simp only [isByte, Bool.and_eq_true, decide_eq_true_eq]
    omega
  have hesc : ∀ l : List Int, (∀ c ∈ l, isByte c = true) → ∀ c ∈ esc l, isByte c = true := by
    intro l
    induction l with
    | nil => intro _ c h; cases h
    | cons d t ih =>
      intro hb c h
      simp only [esc] at h
      have ht : ∀ c ∈ t, isByte c = true := fun c hc => hb c (by simp [hc])
      split at h
      · simp only [List.mem_cons] at h
        rcases h with rfl | rfl | h
        · rfl
        · rfl
        · exact ih ht c h
      · simp only [List.mem_cons] at h
        rcases h with rfl | h
        · exact hb _ (by simp)
        · exact ih ht c h
  intro c h
  unfold encV at h
  split at h
  · simp at h; subst h; rfl
  · split at h
    · simp at h
      rcases h with rfl | rfl
      · rfl
      · exact hmod _
    · split at h
      · simp only [List.mem_cons] at h
        rcases h with rfl | h
        · rfl
        · unfold be8 at h
          obtain ⟨j, _, rfl⟩ := List.mem_map.mp h
          exact hmod _
      · simp only [List.mem_cons, List.mem_append, List.not_mem_nil, or_false] at h
        rcases h with rfl | h | rfl | rfl
        · rfl
        · exact hesc _ (bytesOf_isByte _) c h
        · rfl
        · rfl
theorem append_one (x : S39) (h : okM x) : key_Append.f [] [x] = some (encV x ++ [], 0) := by
  obtain ⟨hm, hn, hs⟩ := h
  have hl : (encR [x]).length ≤ 1000000 := by
    have := encV_len x
    simp [encR]
    omega
  rw [append_f [x] hl (by simp [hn])]
  simp [hm, encR]
theorem lessV_self (x : S39) : lessV x x = false := by
  unfold lessV
  rw [if_pos rfl]
  split
  · have := lx_texts x.f2 x.f2
    rw [this]
    have := lx_pre (bytesOf x.f2) [] []
    rw [List.append_nil] at this
    rw [this]; rfl
  · simp
theorem bnd_less (x y : S39) (hx : okM x) (hy : okM y) : column_Bounds_1.f x.f0 x.f1 x.f2 y.f0 y.f1 y.f2 = some (lessV x y) := by
  unfold column_Bounds_1.f
  rw [show (⟨x.f0, x.f1, x.f2⟩ : S39) = x from rfl, show (⟨y.f0, y.f1, y.f2⟩ : S39) = y from rfl, append_one x hx, append_one y hy, Option.bind_some, Option.bind_some]
  unfold bytes_Compare.f
  rw [Option.bind_some, cmp_less]
  have e : ∀ l : List Int, Lib.bytesOf l = u8s l := fun _ => rfl
  have bx : ∀ c ∈ encV x ++ [], isByte c = true := by rw [List.append_nil]; exact encV_bytesb x
  have by_ : ∀ c ∈ encV y ++ [], isByte c = true := by rw [List.append_nil]; exact encV_bytesb y
  rw [e, e, lx_bytes _ _ bx by_]
  congr 1
  by_cases h : x = y
  · subst h
    rw [lessV_self]
    have := lx_pre (encV x ++ []) [] []
    rw [List.append_nil (encV x ++ [])] at this
    rw [this]; rfl
  · exact lx_encV x y hx.1 hy.1 hx.2.1 hy.2.1 h [] []
def bLo (a v : S39) : S39 := if v.f0 = 0 then a else if a.f0 = 0 then v else if lessV v a = true then v else a
def bHi (b v : S39) : S39 := if v.f0 = 0 then b else if b.f0 = 0 then v else if lessV b v = true then v else b
def bnds : List S39 → S39 → S39 → S39 × S39
  | [], a, b => (a, b)
  | v :: t, a, b => bnds t (bLo a v) (bHi b v)
def fl6 (p : S39 × S39) : Int × Int × ByteArray × Int × Int × ByteArray := (p.1.f0, p.1.f1, p.1.f2, p.2.f0, p.2.f1, p.2.f2)
theorem bLo_ok (a v : S39) (ha : okM a) (hv : okM v) : okM (bLo a v) := by unfold bLo; (repeat' split) <;> assumption
theorem bHi_ok (a v : S39) (ha : okM a) (hv : okM v) : okM (bHi a v) := by unfold bHi; (repeat' split) <;> assumption
theorem bounds_l0 (l : List S39) (hl : l.length ≤ 1000000) (hm : ∀ x ∈ l, okM x) : ∀ (d k i : Nat) (a b : S39), i + d = l.length → 2 * d < k → okM a → okM b →
    column_Bounds.l0 k l (l.length : Int) i a.f0 a.f1 a.f2 b.f0 b.f1 b.f2 = some (fl6 (bnds (l.drop i) a b)) := by
  intro d
  induction d with
  | zero =>
    intro k i a b hi hk ha hb
    obtain ⟨k, rfl⟩ : ∃ j, k = j + 1 := ⟨k - 1, by omega⟩
    rw [column_Bounds.l0, if_neg (by omega), List.drop_of_length_le (by omega)]
    rfl
  | succ d ih =>
    intro k i a b hi hk ha hb
    obtain ⟨k, rfl⟩ : ∃ j, k = j + 2 := ⟨k - 2, by omega⟩
    have hlt : i < l.length := by omega
    have hv := hm _ (rdT_mem hlt)
    have e : bnds (l.drop i) a b = bnds (l.drop (i + 1)) (bLo a (rd_T39 l i)) (bHi b (rd_T39 l i)) := by rw [List.drop_eq_getElem_cons hlt, rdT_get hlt]; rfl
    have h1 := ih (k + 1) (i + 1) (bLo a (rd_T39 l i)) (bHi b (rd_T39 l i)) (by omega) (by omega) (bLo_ok a _ ha hv) (bHi_ok b _ hb hv)
    have h2 := ih k (i + 1) (bLo a (rd_T39 l i)) (bHi b (rd_T39 l i)) (by omega) (by omega) (bLo_ok a _ ha hv) (bHi_ok b _ hb hv)
    rw [← e] at h1 h2
    rw [column_Bounds.l0, if_pos (by omega), if_pos (by omega), if_pos (by omega), w64s i (by omega)]
    clear e
    obtain ⟨v, hvv⟩ : ∃ v, v = rd_T39 l (i : Int) := ⟨_, rfl⟩
    rw [← hvv] at hv h1 h2 ⊢
    by_cases h0 : v.f0 = 0
    · rw [if_pos h0]
      rw [show bLo a v = a by unfold bLo; rw [if_pos h0], show bHi b v = b by unfold bHi; rw [if_pos h0]] at h1
      exact h1
    · rw [if_neg h0]
      have hlo : ∀ q, (q = true → bLo a v = v) → (q = false → bLo a v = a) → column_Bounds.j1 (k + 1) l (l.length : Int) i q a.f0 a.f1 a.f2 b.f0 b.f1 b.f2 v.f0 v.f1 v.f2 = some (fl6 (bnds (l.drop i) a b)) := by
        intro q q1 q2
        rw [column_Bounds.j1, w64s i (by omega)]
        by_cases hb0 : b.f0 = 0
        · have e2 : bHi b v = v := by unfold bHi; rw [if_neg h0, if_pos hb0]
          rw [e2] at h2
          cases q with
          | true => rw [q1 rfl] at h2; rw [if_pos rfl, if_pos hb0]; exact h2
          | false => rw [q2 rfl] at h2; rw [if_neg (by decide), if_pos hb0]; exact h2
        · rw [if_neg hb0, bnd_less b v hb hv, Option.bind_some, Option.bind_some, if_neg hb0]
          by_cases hq : lessV b v = true
          · have e2 : bHi b v = v := by unfold bHi; rw [if_neg h0, if_neg hb0, if_pos hq]
            rw [e2] at h2
            cases q with
            | true => rw [q1 rfl] at h2; rw [if_pos rfl, if_pos hq]; exact h2
            | false => rw [q2 rfl] at h2; rw [if_neg (by decide), if_pos hq]; exact h2
          · have e2 : bHi b v = b := by unfold bHi; rw [if_neg h0, if_neg hb0, if_neg hq]
            rw [e2] at h2
            cases q with
            | true => rw [q1 rfl] at h2; rw [if_pos rfl, if_neg hq]; exact h2
            | false => rw [q2 rfl] at h2; rw [if_neg (by decide), if_neg hq]; exact h2
      by_cases ha0 : a.f0 = 0
      · rw [if_pos ha0]
        exact hlo true (fun _ => by unfold bLo; rw [if_neg h0, if_pos ha0]) (fun h => by cases h)
      · rw [if_neg ha0, bnd_less v a hv ha, Option.bind_some]
        exact hlo _ (fun h => by unfold bLo; rw [if_neg h0, if_neg ha0, if_pos h]) (fun h => by unfold bLo; rw [if_neg h0, if_neg ha0, if_neg (by rw [h]; decide)])
theorem okM_zero : okM z39 := ⟨by simp [mayB, z39], by decide, Nat.zero_le _⟩
theorem bounds_f (l : List S39) (hl : l.length ≤ 1000000) (hm : ∀ x ∈ l, okM x) (k : Nat) (hk : 2 * l.length < k) : column_Bounds.f k l = some (fl6 (bnds l z39 z39)) := by
  have := bounds_l0 l hl hm l.length k 0 z39 z39 (by omega) hk okM_zero okM_zero
  unfold column_Bounds.f
  rw [List.drop_zero] at this
  exact this
end Go.Proofs.Ytlmcefhpnfoahaa.P
end

section
namespace Go.Proofs.Ytlmcefhpnfoahaa.P
open Go.RowKit Go.Proofs.YtlmcefhpnfoahaaW.PrintWords Go.Proofs.YtlmcefhpnfoahaaW.PrintLast Go.Proofs.YtlmcefhpnfoahaaW.PrintMore
set_option linter.unusedVariables false
set_option linter.unusedSimpArgs false

theorem bnds_marks : ∀ (l : List S39) (a b : S39), bnds l a b = bnds (marksOf l) a b := by
  intro l
  induction l with
  | nil => intro a b; rfl
  | cons v t ih =>
    intro a b
    by_cases h0 : v.f0 = 0
    · have e : marksOf (v :: t) = marksOf t := by simp [marksOf, nulV, h0]
      have e1 : bLo a v = a := by unfold bLo; rw [if_pos h0]
      have e2 : bHi b v = b := by unfold bHi; rw [if_pos h0]
      rw [e, ← ih]
      show bnds t (bLo a v) (bHi b v) = _
      rw [e1, e2]
    · have e : marksOf (v :: t) = v :: marksOf t := by simp [marksOf, nulV, h0]
      rw [e]
      exact ih _ _
theorem marks_ne (l : List S39) : ∀ x ∈ marksOf l, x.f0 ≠ 0 := by
  intro x hx
  have := (List.mem_filter.mp hx).2
  simpa [nulV] using this
end Go.Proofs.Ytlmcefhpnfoahaa.P
end
