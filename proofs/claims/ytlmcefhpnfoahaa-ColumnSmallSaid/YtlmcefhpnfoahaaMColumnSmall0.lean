/- The row of the law ColumnSmall: at every input it answers true, and each argument reads behind the call as it did. No condition. -/
import Derived.WalkKit
import Derived.ProofKit
import Derived.OpenShut
import Derived.ShutString
import Derived.ChangeOld
import Derived.Below
import Derived.SizedLaws
import Derived.Test.YtlmcefhpnfoahaaRows
import Derived.Test.YtlmcefhpnfoahaaBCOL2
section
namespace Go.Proofs.Ytlmcefhpnfoahaa.P
open Go.RowKit Go.Proofs.YtlmcefhpnfoahaaW.PrintWords Go.Proofs.YtlmcefhpnfoahaaW.PrintLast Go.Proofs.YtlmcefhpnfoahaaW.PrintMore
attribute [local go_sem] max2_int min2_int max_two min_two max_three min_three max_four min_four   -- for this text's walks alone
set_option linter.unusedVariables false
set_option linter.unusedSimpArgs false

def tidelinelaw06_ColumnSmall.l0 : Nat → ByteArray → Int → List (S39) → Int → Option (Bool)
  | 0, _, _, _, _ => none
  | k + 1, x0, x5, x6, x7 => if x7 < x5 then (if x6.length < 4398046511104 then (tidelinelaw06_ColumnSmall.l0 k x0 x5 (x6 ++ [(⟨3, 0, x0⟩ : S39)]) (wrap64 (x7 + 1))) else (none)) else ((column_Put.f 3 x6).bind fun bt1182 => (if bt1182.2 = 0 then (if (bt1182.1.length : Int) ≤ (wrap64 ((wrap64 ((wrap64 ((wrap64 (Int.tdiv (wrap64 (x5 + 7)) 8)) + (x0.size : Int))) + 7)) + x5)) then ((tidelinelaw06_puts.f).bind fun t1186 => (some t1186)) else (some false)) else (some false)))
def tidelinelaw06_ColumnSmall.f (k : Nat) (a0 : ByteArray) (a1 : Int) : Option (Bool) := if (a0.size : Int) > 300 then (some true) else (tidelinelaw06_ColumnSmall.l0 k a0 (Int.tmod (wrap64 (a1)) 501) ([] : List (S39)) 0)
set_option maxHeartbeats 8000000 in
set_option maxRecDepth 100000 in
theorem tidelinelaw06_ColumnSmall.calls (k : Nat) (a0 : ByteArray) (a1 : Int) (r : Bool) (w : World) (h : tidelinelaw06_ColumnSmall.f k a0 a1 = some r) :
    Calls Try.prog 21 #[.string a0, .int .u16 a1] w fun e w' => e = .returned (.bool r) ∧ Below w.heap.size w w' := by
  have hu39 := Try.underlying39
  have HB := Aside0.mk (Below.refl w.heap.size w)
  have H : (if (a0.size : Int) > 300 then (some true) else (tidelinelaw06_ColumnSmall.l0 k a0 (Int.tmod (wrap64 (a1)) 501) ([] : List (S39)) 0)) = some r := h
  clear h
  by_cases c3 : (a0.size : Int) > 300
  · rw [if_pos c3] at H
    have c3b0 : decide (300 < (a0.size : Int)) = true := decide_eq_true c3
    have c3b1 : decide (300 < a0.size) = true := decide_eq_true (by omega)
    clear c3
    obtain rfl := Option.some.inj H
    go_enter Try.func21, Try.ntmps21
    go_wp2
    go_ret
    exact ⟨by first | rfl | (simp [errW_none, errW_some] <;> rfl) | (simp [*, errW_none, errW_some] <;> rfl), by repeat (first | (with_reducible first | exact HB.out | apply below_alloc | apply pw_below_drewN | apply below_drew1) | exact HB.out)⟩
  · rw [if_neg c3] at H
    have c3b0 : decide (300 < (a0.size : Int)) = false := decide_eq_false c3
    have c3b1 : decide (300 < a0.size) = false := decide_eq_false (by omega)
    clear c3
    have H' := Aside0.mk H
    clear H
    go_enter Try.func21, Try.ntmps21
    go_wp2
    go_loopg [6, 7] k (fun kq v6 v7 w' => ∃ (x6_1 : List (S39)) (x7_1 : Int), v7 = .int .i64 x7_1 ∧ Aside0 (tidelinelaw06_ColumnSmall.l0 kq a0 (Int.tmod (wrap64 (a1)) 501) x6_1 x7_1 = some r) ∧ Aside0 (kq ≤ k) ∧ Aside0 (Kd.R k39 39 w' w.heap.size (fun _ => True) v6 x6_1) ∧ Aside0 (Below w.heap.size w w'))
    case atStart => exact ⟨(([] : List (S39))), (0), (by first | rfl | (simp; done) | (simp [*]; done)), H', ⟨Nat.le_refl _⟩, ⟨by first | exact Kd.R_nil _ _ _ _ _ | exact Kd.N_nil _ _ _ _ _ | exact Kd.V_nil _ _ _ _ _ | exact Kd.Q_nil _ _ _ _ _ | exact Kd.S_nil _ _ _ _ _⟩, ⟨by repeat (first | (with_reducible first | exact HB.out | apply below_alloc | apply pw_below_drewN | apply below_drew1) | exact HB.out)⟩⟩
    case round =>
      clear H'
      try clear c2
      try clear p2
      try clear c3
      try clear c3b0
      try clear c3b1
      obtain ⟨x6_1, x7_1, rfl, HA, HK1, HO_6, HB⟩ := hrel
      cases gk with
      | zero => exact absurd HA.out (by simp [tidelinelaw06_ColumnSmall.l0])
      | succ k1 =>
        have H := HA.out
        clear HA
        simp only [tidelinelaw06_ColumnSmall.l0] at H
        by_cases c4 : x7_1 < (Int.tmod (wrap64 (a1)) 501)
        · rw [if_pos c4] at H
          have c4b0 : decide (x7_1 < (Int.tmod (wrap64 (a1)) 501)) = true := decide_eq_true c4
          clear c4
          by_cases c5 : x6_1.length < 4398046511104
          · rw [if_pos c5] at H
            have LMc5 := Aside0.mk c5
            clear c5
            obtain ⟨y1179, hy1179⟩ : ∃ y_ : List (S39), y_ = (x6_1 ++ [(⟨3, 0, a0⟩ : S39)]) := ⟨_, rfl⟩
            replace H : (tidelinelaw06_ColumnSmall.l0 k1 a0 (Int.tmod (wrap64 (a1)) 501) y1179 (wrap64 (x7_1 + 1))) = some r := by first | (rw [hy1179]; with_reducible exact H) | (have H2_ := (Option.bind_some _ _).symm.trans H; rw [hy1179]; with_reducible exact H2_) | (have H2_ := (Option.bind_some _ _).symm.trans H; with_reducible exact H2_) | with_reducible exact H | (rw [hy1179]; exact H) | exact H
            have Ny1179 := Aside0.mk hy1179
            clear hy1179
            have H' := Aside0.mk H
            clear H
            go_wp2_with (first | ((with_reducible refine gate_builtin (b := .append) (xs := #[.tmp 21, .tmp 24]) rfl ?_); (try (refine gate_guard (by rfl) ?_; dsimp only)); at_builtin; refine Kd.R_append k39 (w0 := w) w.heap.size rfl (.tmp 21) (.tmp 24) 23 39 (.agg #[(.int .u8 0), (.int .i64 0), (.string ⟨#[]⟩)]) 32 rfl Try.underlying23 info39 rfl (by decide) (by omega) u6 x6_1 (⟨3, 0, a0⟩ : S39) [.int .u8 3, .int .i64 0, .string a0] (fun _ => True) (fun _ => False) rfl rfl ?aP (fun _ hk => hk.elim) ?aF ?aO ?aB ?aS ?aL ?_; (case aP => exact k39_mkM _ _ _ (⟨3, 0, a0⟩ : S39)); (case aB => exact (by repeat (first | (with_reducible first | exact HB.out | apply below_alloc | apply pw_below_drewN | apply below_drew1) | exact HB.out))); (case aF => exact (fun _ _ => trivial)); (case aO => exact (by (with_reducible repeat (first | apply Kd.R_alloc | apply Kd.R_drewN | apply Kd.R_drew)); exact HO_6.out)); (case aS => exact (below_size (by repeat (first | (with_reducible first | exact HB.out | apply below_alloc | apply pw_below_drewN | apply below_drew1) | exact HB.out)))); (case aL => have := LMc5.out; omega); intro v1180 w6 ho hb hg hat; rw [← Ny1179.out] at ho; have n0_ := Aside0.mk (hb); have n1_ := Aside0.mk (ho); clear HB; clear HO_6; have HB := n0_; have HO1181 := n1_; clear n0_ n1_; clear ho hb hg hat))
            go_roundg k1
            case measure => have := HK1.out; omega
            case rel => exact ⟨(y1179), (wrap64 (x7_1 + 1)), (by first | rfl | (simp; done) | (simp [*]; done)), H', ⟨by have := HK1.out; omega⟩, ⟨by (with_reducible repeat (first | apply Kd.R_alloc | apply Kd.R_drewN | apply Kd.R_drew)); exact HO1181.out⟩, ⟨by repeat (first | (with_reducible first | exact HB.out | apply below_alloc | apply pw_below_drewN | apply below_drew1) | exact HB.out)⟩⟩
          · rw [if_neg c5] at H
            exact absurd H (by simp)
        · rw [if_neg c4] at H
          have c4b0 : decide (x7_1 < (Int.tmod (wrap64 (a1)) 501)) = false := decide_eq_false c4
          clear c4
          replace H := Option.bind_eq_some_iff.mp H
          obtain ⟨⟨t1182, t1183⟩, A70, H⟩ := H
          replace H : (if t1183 = 0 then (if (t1182.length : Int) ≤ (wrap64 ((wrap64 ((wrap64 ((wrap64 (Int.tdiv (wrap64 ((Int.tmod (wrap64 (a1)) 501) + 7)) 8)) + (a0.size : Int))) + 7)) + (Int.tmod (wrap64 (a1)) 501))) then ((tidelinelaw06_puts.f).bind fun t1186 => (some t1186)) else (some false)) else (some false)) = some r := H
          have A7 := Aside0.mk A70
          clear A70
          by_cases c8 : t1183 = 0
          · rw [if_pos c8] at H
            have c8b0 : (t1183 == 0) = true := beq_iff_eq.mpr c8
            have c8b1 : (t1183 != 0) = false := bne_eq_false_iff_eq.mpr c8
            clear c8
            by_cases c9 : (t1182.length : Int) ≤ (wrap64 ((wrap64 ((wrap64 ((wrap64 (Int.tdiv (wrap64 ((Int.tmod (wrap64 (a1)) 501) + 7)) 8)) + (a0.size : Int))) + 7)) + (Int.tmod (wrap64 (a1)) 501)))
            · rw [if_pos c9] at H
              have c9b0 : decide ((t1182.length : Int) ≤ (wrap64 ((wrap64 ((wrap64 ((wrap64 (Int.tdiv (wrap64 ((Int.tmod (wrap64 (a1)) 501) + 7)) 8)) + (a0.size : Int))) + 7)) + (Int.tmod (wrap64 (a1)) 501)))) = true := decide_eq_true c9
              clear c9
              replace H := Option.bind_eq_some_iff.mp H
              obtain ⟨t1186, A100, H⟩ := H
              replace H : (some t1186) = some r := H
              have A10 := Aside0.mk A100
              clear A100
              obtain rfl := Option.some.inj H
              obtain ⟨Ao11, co11, eo11⟩ := Kd.R_slice HO_6.out
              subst eo11
              go_wp2_with (first | ((with_reducible refine gate_callee (f := 55) rfl ?_); refine goesL_ (some 28) rfl rfl Try.func55 (by kernel_rfl) rfl #[.int .u8 3, .slice Ao11 x6_1.length co11] rfl (by (try simp only [List.map_toArray, List.map_cons, List.map_nil]); first | done | rfl | (simp only [List.length_drop, List.length_take]; rfl)) ?_; (with_reducible refine (column_Put.calls 3 _ _ x6_1 t1182 t1183 _ ?side1 ?side2 A7.out).mono ?_); (case side1 => repeat (first | exact (Kd.R_reads' HO_6.out).2.2 | (with_reducible refine Kd.C_alloc ?_ _) | (with_reducible refine Kd.C_drewN ?_ _) | (with_reducible refine Kd.C_drew ?_))); (case side2 => exact (Kd.R_reads' HO_6.out).2.1); rintro e w12 ⟨v1184, rfl, ho0, hb⟩; refine ⟨_, rfl, ?_⟩; have n0_ := Aside0.mk (Kd.R_below (by (with_reducible repeat (first | apply Kd.R_alloc | apply Kd.R_drewN | apply Kd.R_drew)); exact HO_6.out) hb); have n1_ := Aside0.mk (Kd.R_lower ho0 (below_size (by repeat (first | (with_reducible first | exact HB.out | apply below_alloc | apply pw_below_drewN | apply below_drew1) | exact HB.out)))); have n2_ := Aside0.mk (below_step (by repeat (first | (with_reducible first | exact HB.out | apply below_alloc | apply pw_below_drewN | apply below_drew1) | exact HB.out)) hb); clear HO_6; clear HB; have HO_6 := n0_; have HO1185 := n1_; have HB := n2_; clear n0_ n1_ n2_; (try clear hb); (try clear hb2); (try clear hk); (try clear hi); (try clear ho0); obtain ⟨Ao13, co13, eo13⟩ := Kd.R_slice HO1185.out; subst eo13) | (go_at_call 57; (with_reducible refine (tidelinelaw06_puts.calls  t1186 _ A10.out).mono ?_); rintro e w14 ⟨rfl, hb⟩; have n0_ := Aside0.mk (Kd.R_below (by (with_reducible repeat (first | apply Kd.R_alloc | apply Kd.R_drewN | apply Kd.R_drew)); exact HO_6.out) hb); have n1_ := Aside0.mk (Kd.R_below (by (with_reducible repeat (first | apply Kd.R_alloc | apply Kd.R_drewN | apply Kd.R_drew)); exact HO1185.out) hb); have n2_ := Aside0.mk (below_step (by repeat (first | (with_reducible first | exact HB.out | apply below_alloc | apply pw_below_drewN | apply below_drew1) | exact HB.out)) hb); clear HO_6; clear HO1185; clear HB; have HO_6 := n0_; have HO1185 := n1_; have HB := n2_; clear n0_ n1_ n2_; (try clear hb); (try clear hb2); (try clear hk); (try clear hi)))
              go_ret
              exact ⟨by first | rfl | (simp [errW_none, errW_some] <;> rfl) | (simp [*, errW_none, errW_some] <;> rfl), by repeat (first | (with_reducible first | exact HB.out | apply below_alloc | apply pw_below_drewN | apply below_drew1) | exact HB.out)⟩
            · rw [if_neg c9] at H
              have c9b0 : decide ((t1182.length : Int) ≤ (wrap64 ((wrap64 ((wrap64 ((wrap64 (Int.tdiv (wrap64 ((Int.tmod (wrap64 (a1)) 501) + 7)) 8)) + (a0.size : Int))) + 7)) + (Int.tmod (wrap64 (a1)) 501)))) = false := decide_eq_false c9
              clear c9
              obtain rfl := Option.some.inj H
              obtain ⟨Ao15, co15, eo15⟩ := Kd.R_slice HO_6.out
              subst eo15
              go_wp2_with (first | ((with_reducible refine gate_callee (f := 55) rfl ?_); refine goesL_ (some 28) rfl rfl Try.func55 (by kernel_rfl) rfl #[.int .u8 3, .slice Ao15 x6_1.length co15] rfl (by (try simp only [List.map_toArray, List.map_cons, List.map_nil]); first | done | rfl | (simp only [List.length_drop, List.length_take]; rfl)) ?_; (with_reducible refine (column_Put.calls 3 _ _ x6_1 t1182 t1183 _ ?side1 ?side2 A7.out).mono ?_); (case side1 => repeat (first | exact (Kd.R_reads' HO_6.out).2.2 | (with_reducible refine Kd.C_alloc ?_ _) | (with_reducible refine Kd.C_drewN ?_ _) | (with_reducible refine Kd.C_drew ?_))); (case side2 => exact (Kd.R_reads' HO_6.out).2.1); rintro e w16 ⟨v1184, rfl, ho0, hb⟩; refine ⟨_, rfl, ?_⟩; have n0_ := Aside0.mk (Kd.R_below (by (with_reducible repeat (first | apply Kd.R_alloc | apply Kd.R_drewN | apply Kd.R_drew)); exact HO_6.out) hb); have n1_ := Aside0.mk (Kd.R_lower ho0 (below_size (by repeat (first | (with_reducible first | exact HB.out | apply below_alloc | apply pw_below_drewN | apply below_drew1) | exact HB.out)))); have n2_ := Aside0.mk (below_step (by repeat (first | (with_reducible first | exact HB.out | apply below_alloc | apply pw_below_drewN | apply below_drew1) | exact HB.out)) hb); clear HO_6; clear HB; have HO_6 := n0_; have HO1185 := n1_; have HB := n2_; clear n0_ n1_ n2_; (try clear hb); (try clear hb2); (try clear hk); (try clear hi); (try clear ho0); obtain ⟨Ao17, co17, eo17⟩ := Kd.R_slice HO1185.out; subst eo17))
              go_ret
              exact ⟨by first | rfl | (simp [errW_none, errW_some] <;> rfl) | (simp [*, errW_none, errW_some] <;> rfl), by repeat (first | (with_reducible first | exact HB.out | apply below_alloc | apply pw_below_drewN | apply below_drew1) | exact HB.out)⟩
          · rw [if_neg c8] at H
            have c8b0 : (t1183 == 0) = false := beq_eq_false_iff_ne.mpr c8
            have c8b1 : (t1183 != 0) = true := bne_iff_ne.mpr c8
            obtain rfl := Option.some.inj H
            obtain ⟨Ao18, co18, eo18⟩ := Kd.R_slice HO_6.out
            subst eo18
            go_wp2_with (first | ((with_reducible refine gate_callee (f := 55) rfl ?_); refine goesL_ (some 28) rfl rfl Try.func55 (by kernel_rfl) rfl #[.int .u8 3, .slice Ao18 x6_1.length co18] rfl (by (try simp only [List.map_toArray, List.map_cons, List.map_nil]); first | done | rfl | (simp only [List.length_drop, List.length_take]; rfl)) ?_; (with_reducible refine (column_Put.calls 3 _ _ x6_1 t1182 t1183 _ ?side1 ?side2 A7.out).mono ?_); (case side1 => repeat (first | exact (Kd.R_reads' HO_6.out).2.2 | (with_reducible refine Kd.C_alloc ?_ _) | (with_reducible refine Kd.C_drewN ?_ _) | (with_reducible refine Kd.C_drew ?_))); (case side2 => exact (Kd.R_reads' HO_6.out).2.1); rintro e w19 ⟨v1184, rfl, ho0, hb⟩; refine ⟨_, rfl, ?_⟩; have n0_ := Aside0.mk (Kd.R_below (by (with_reducible repeat (first | apply Kd.R_alloc | apply Kd.R_drewN | apply Kd.R_drew)); exact HO_6.out) hb); have n1_ := Aside0.mk (Kd.R_lower ho0 (below_size (by repeat (first | (with_reducible first | exact HB.out | apply below_alloc | apply pw_below_drewN | apply below_drew1) | exact HB.out)))); have n2_ := Aside0.mk (below_step (by repeat (first | (with_reducible first | exact HB.out | apply below_alloc | apply pw_below_drewN | apply below_drew1) | exact HB.out)) hb); clear HO_6; clear HB; have HO_6 := n0_; have HO1185 := n1_; have HB := n2_; clear n0_ n1_ n2_; (try clear hb); (try clear hb2); (try clear hk); (try clear hi); (try clear ho0)))
            go_ret
            exact ⟨by first | rfl | (simp [errW_none, errW_some] <;> rfl) | (simp [*, errW_none, errW_some] <;> rfl), by repeat (first | (with_reducible first | exact HB.out | apply below_alloc | apply pw_below_drewN | apply below_drew1) | exact HB.out)⟩

end Go.Proofs.Ytlmcefhpnfoahaa.P
end

section
namespace Go.Proofs.Ytlmcefhpnfoahaa.P
open Go.RowKit Go.Proofs.YtlmcefhpnfoahaaW.PrintWords Go.Proofs.YtlmcefhpnfoahaaW.PrintLast Go.Proofs.YtlmcefhpnfoahaaW.PrintMore
set_option linter.unusedVariables false
set_option linter.unusedSimpArgs false

theorem vput_one (v : Int) (h : v < 128) : (vput 9 v).length = 1 := by
  unfold vput
  rw [if_neg (by omega)]
  rfl
theorem vput_two (v : Int) (h : v < 16384) : (vput 9 v).length ≤ 2 := by
  unfold vput
  split
  · unfold vput
    rw [if_neg (by omega)]
    simp
  · simp
theorem words_rep (s : ByteArray) : ∀ (n : Nat), wordsOf [s] (List.replicate n s) = [s] := by
  intro n
  induction n with
  | zero => rfl
  | succ n ih => rw [List.replicate_succ]; unfold wordsOf; rw [if_pos (by simp)]; exact ih
theorem flat_one {α : Type} (f : α → List Int) : ∀ (l : List α), (∀ x ∈ l, (f x).length = 1) → (l.flatMap f).length = l.length := by
  intro l
  induction l with
  | nil => intro _; rfl
  | cons x t ih =>
    intro h
    rw [List.flatMap_cons, List.length_append, h x (by simp), ih (fun y hy => h y (by simp [hy])), List.length_cons]
    omega
theorem small_texts (s : ByteArray) (hs : s.size ≤ 300) (n : Nat) : (encTexts (List.replicate n s)).length ≤ s.size + 7 + n := by
  cases n with
  | zero => have : encTexts (List.replicate 0 s) = [0] := by show encTexts [] = [0]; decide +kernel
            rw [this]; simp
  | succ n =>
    have hw : wordsOf [] (List.replicate (n + 1) s) = [s] := by
      rw [List.replicate_succ]
      unfold wordsOf
      rw [if_neg (by simp)]
      exact words_rep s n
    unfold encTexts
    rw [hw]
    have h1 := vput_one (([s] : List ByteArray).length : Int) (by simp)
    have h2 := vput_two (s.size : Int) (by omega)
    have h3 := flat_one (which [s]) (List.replicate (n + 1) s) (fun x hx => by
      rw [(List.mem_replicate.mp hx).2]
      unfold which
      exact vput_one _ (by simp))
    rw [List.length_append, List.length_append, h1, h3, List.length_replicate]
    simp only [List.flatMap_cons, List.flatMap_nil, List.append_nil, encT, List.length_append, bytesOf_length]
    omega
theorem small_put (s : ByteArray) (hs : s.size ≤ 300) (n : Nat) (hn : n ≤ 500) : ∃ b, column_Put.f 3 (List.replicate n ⟨3, 0, s⟩) = some (b, 0) ∧ b.length ≤ (n + 7) / 8 + s.size + 7 + n := by
  refine ⟨encCol 3 (List.replicate n ⟨3, 0, s⟩), ?_, ?_⟩
  · unfold column_Put.f
    rw [if_pos ⟨by simp; omega, by rw [List.all_eq_true]; intro x hx; rw [(List.mem_replicate.mp hx).2]; rfl, by rw [List.all_eq_true]; intro x hx; rw [(List.mem_replicate.mp hx).2]; simp; omega⟩]
    unfold putCol
    rw [if_pos ⟨rfl, by simp; omega, by unfold fitCol; rw [List.all_eq_true]; intro x hx; rw [(List.mem_replicate.mp hx).2]; simp [rowMay, mayB]⟩]
  · have hm : marksOf (List.replicate n (⟨3, 0, s⟩ : S39)) = List.replicate n ⟨3, 0, s⟩ := by
      unfold marksOf
      rw [List.filter_eq_self]
      intro x hx
      rw [(List.mem_replicate.mp hx).2]
      rfl
    have h1 := lay_length (fun i : Nat => nulV (rd_T39 (List.replicate n (⟨3, 0, s⟩ : S39)) i)) (List.replicate n (⟨3, 0, s⟩ : S39)).length
    have h2 := small_texts s hs n
    have hmp : (List.replicate n (⟨3, 0, s⟩ : S39)).map S39.f2 = List.replicate n s := List.map_replicate
    unfold encCol
    rw [List.length_append, h1, hm]
    unfold encMarks
    rw [if_neg (by decide), if_neg (by decide), hmp, List.length_replicate]
    omega
theorem small_wrap (i s : Nat) (hi : i ≤ 500) (hs : s ≤ 300) : wrap64 (wrap64 (wrap64 (wrap64 (Int.tdiv (wrap64 ((i : Int) + 7)) 8) + (s : Int)) + 7) + (i : Int)) = (((i + 7) / 8 : Nat) : Int) + (s : Int) + 7 + (i : Int) := by
  have e2 : Int.tdiv ((i : Int) + 7) 8 = (((i + 7) / 8 : Nat) : Int) := by rw [Int.tdiv_eq_ediv_of_nonneg (by omega)]; omega
  rw [w64 (x := (i : Int) + 7) (by omega) (by omega), e2, w64 (x := (((i + 7) / 8 : Nat) : Int)) (by omega) (by omega), w64 (x := (((i + 7) / 8 : Nat) : Int) + (s : Int)) (by omega) (by omega), w64 (x := (((i + 7) / 8 : Nat) : Int) + (s : Int) + 7) (by omega) (by omega), w64 (x := (((i + 7) / 8 : Nat) : Int) + (s : Int) + 7 + (i : Int)) (by omega) (by omega)]
theorem small_l0 (s : ByteArray) (hs : s.size ≤ 300) (n : Nat) (hn : n ≤ 500) : ∀ (d k i : Nat), i + d = n → d < k → tidelinelaw06_ColumnSmall.l0 k s (n : Int) (List.replicate i ⟨3, 0, s⟩) (i : Int) = some true := by
  intro d
  induction d with
  | zero =>
    intro k i hi hk
    obtain ⟨k, rfl⟩ : ∃ j, k = j + 1 := ⟨k - 1, by omega⟩
    obtain rfl : i = n := by omega
    obtain ⟨b, hb, hl⟩ := small_put s hs i hn
    have HFIN : ((b, (0 : Int)).1.length : Int) ≤ (((i + 7) / 8 : Nat) : Int) + (s.size : Int) + 7 + (i : Int) := by dsimp only; omega
    rw [tidelinelaw06_ColumnSmall.l0, if_neg (show ¬ ((i : Int) < (i : Int)) from Int.lt_irrefl _), hb, Option.bind_some, if_pos rfl, small_wrap i s.size hn hs, if_pos HFIN]
    rfl
  | succ d ih =>
    intro k i hi hk
    obtain ⟨k, rfl⟩ : ∃ j, k = j + 1 := ⟨k - 1, by omega⟩
    rw [tidelinelaw06_ColumnSmall.l0, if_pos (by omega), if_pos (by simp; omega), w64s i (by omega)]
    have := ih k (i + 1) (by omega) (by omega)
    rwa [List.replicate_succ'] at this
theorem small_f (s : ByteArray) (n : Int) (h0 : 0 ≤ n) (h1 : n ≤ 65535) : tidelinelaw06_ColumnSmall.f 502 s n = some true := by
  unfold tidelinelaw06_ColumnSmall.f
  by_cases hs : (s.size : Int) > 300
  · rw [if_pos hs]
  · rw [if_neg hs, w64 (by omega) (by omega)]
    have e : Int.tmod n 501 = ((n.toNat % 501 : Nat) : Int) := by rw [Int.tmod_eq_emod_of_nonneg h0]; omega
    rw [e]
    exact small_l0 s (by omega) (n.toNat % 501) (by omega) (n.toNat % 501) 502 0 (by omega) (by omega)
theorem walk_ColumnSmall (a0 : ByteArray) (a1 : Int) (w : World) (h0 : a0.size ≤ maxLen) (h1 : (Lit.int .u16 a1).wf = true) :
    Calls Try.prog 21 #[.string a0, .int .u16 a1] w fun e w' => e = .returned (.bool true) ∧ Below w.heap.size w w' := by
  have hmin : IntKind.u16.min = 0 := rfl
  have hmax : IntKind.u16.max = 65535 := rfl
  simp only [Lit.wf, Bool.and_eq_true, decide_eq_true_eq] at h1
  exact tidelinelaw06_ColumnSmall.calls _ a0 a1 true w (small_f a0 a1 (by omega) (by omega))
end Go.Proofs.Ytlmcefhpnfoahaa.P
end

section
/- The row of the law ColumnSmall: at every input it answers true, and each argument reads behind the call as it did. No condition. -/
namespace Go.Proofs.Ytlmcefhpnfoahaa.columnSmall
open Go.ChangeShapes Go.WideShapes Go.ChangeAt Go.RowKit Go.Proofs.Ytlmcefhpnfoahaa.P
open Go.ChangeMaps (open_string shut_string)
set_option linter.unusedVariables false
theorem own : ownKnob Try.prog.godebug = none := by kernel_rfl
theorem laidOut : laidOutB Try.prog = true := by kernel_rfl
set_option maxRecDepth 100000 in
theorem lifted (os : Os) (started : os.Started) (H : Type) (enc : TypeId × Value → H) :
    ReturnsInHanded {} Try.checked os 21 .any (Rows.columnSmallSpec.pre6 enc Try.prog Try.f21 Rows.columnSmallRow.domain false) (Rows.columnSmallSpec.post enc Try.prog Try.f21 false true false false) := by
  refine returnsInHanded_of_change_sized (C := Try.checked) own started (by kernel_rfl) Try.func21
    (ChangeSpec.witness6 (enc := enc) (C := Try.checked) false ⟨#[], #[.string ByteArray.empty, .int .u16 0], []⟩ 8 (by kernel_rfl) (by kernel_rfl) (by kernel_rfl) (by kernel_rfl)) ?_
  intro W base args ds gs before hval0 hW hcnd hsz0 _
  have hval : ∀ (j : Nat) t v, Try.f21.params[j]? = some t → args[j]? = some v → Value.okWide Try.prog W .any base t v := hval0
  have hW' := hW
  obtain ⟨p, q, hA0, hV, rfl, hfz, hnd⟩ := hW
  have hA : DataW.TrodAll enc Try.prog W 0 (fun _ => true) true Try.f21.params.toList args.toList ds p := hA0
  rw [Try.params21] at hA hval
  obtain ⟨v0, vs0, d0, ds0, p0, q0, hargs, rfl, rfl, h0, r0⟩ := trodAll_cons hA
  obtain ⟨v1, vs1, d1, ds1, p1, q1, rfl, rfl, rfl, h1, r1⟩ := trodAll_cons r0
  obtain ⟨rfl, rfl, rfl⟩ := trodAll_nil r1
  obtain rfl : args = #[v0, v1] := by cases args; simp_all
  obtain ⟨rfl, rfl⟩ := trodVars_none hV
  obtain ⟨a0, rfl, rfl, rfl, y0⟩ := open_string Try.underlying9 (hval 0 9 v0 rfl rfl) h0
  obtain ⟨a1, rfl, rfl, rfl, w1⟩ := open_int Try.underlying66 (hval 1 66 v1 rfl rfl) h1
  clear hA0 hval0 hsz0
  refine (walk_ColumnSmall a0 a1 W y0 w1).mono fun e W' ⟨he, bel⟩ => ?_
  subst he
  exact ⟨_, rfl, _, _, _, [], _, [], hW', trodAll_mk1 (shut_bool Try.underlying4 _), (trodAll_cons_mk (shut_string Try.underlying9 y0) (trodAll_cons_mk (shut_int Try.underlying66 w1) trodAll_mk0)), rfl, bel.frame _, fun h => by cases h⟩
theorem k_wf : Rows.columnSmallRow.wf (OpenSpec.ofChange Rows.columnSmallSpec) = true := by kernel_rfl
theorem k_params : Try.f21.params.all (Try.prog.readableRec ·) = true := by kernel_rfl
theorem k_tie : namedTie Try.prog Rows.columnSmallRow.named Rows.columnSmallSpec.vars = true := by kernel_rfl
theorem k_inPlace : (Rows.columnSmallRow.inPlace == Try.prog.inPlace 21) = true := by kernel_rfl
theorem k_unfollowed : (Rows.columnSmallRow.unfollowed == Try.prog.unfollowed 21) = true := by kernel_rfl
theorem k_recurses : (Rows.columnSmallRow.recurses == Try.prog.recurses 21) = true := by kernel_rfl
theorem k_named : (Rows.columnSmallRow.named == Try.prog.varsNamed 21) = true := by kernel_rfl
theorem k_maps : (Rows.columnSmallRow.maps == (Try.f21.params.toList ++ Rows.columnSmallSpec.plain.varTypes Try.prog).any (Try.prog.mapsRec ·)) = true := by kernel_rfl
theorem k_ifaces : (Rows.columnSmallRow.ifaces == (Try.f21.params.toList ++ Rows.columnSmallSpec.plain.varTypes Try.prog).any (Try.prog.ifacesRec ·)) = true := by kernel_rfl
theorem k_mapsOut : (Rows.columnSmallRow.mapsOut == Try.prog.mapsAmong Try.f21.resultTypes.toList) = true := by kernel_rfl
theorem k_loops : (Rows.columnSmallRow.loops == (Try.f21.params.toList ++ Rows.columnSmallSpec.plain.varTypes Try.prog).any (Try.prog.loopsFrom ·)) = true := by kernel_rfl
theorem k_wideKeys : (Rows.columnSmallRow.wideKeys == ((Try.f21.params.toList ++ Rows.columnSmallSpec.plain.varTypes Try.prog) ++ Try.f21.resultTypes.toList).any (Try.prog.wideKeysFrom ·)) = true := by kernel_rfl
theorem k_results : Try.f21.resultTypes.all (fun t => Try.prog.readableRec t && decide (t < Try.prog.types.size)) = true := by kernel_rfl
theorem k_ifacesOut : (Rows.columnSmallRow.ifacesOut == Try.f21.resultTypes.toList.any (Try.prog.ifacesRec ·)) = true := by kernel_rfl
theorem k_loopsOut : (Rows.columnSmallRow.loopsOut == Try.f21.resultTypes.toList.any (Try.prog.loopsFrom ·)) = true := by kernel_rfl
theorem k_veiled : (Rows.columnSmallRow.veiled == ((Try.f21.params.toList ++ Rows.columnSmallSpec.plain.varTypes Try.prog) ++ Try.f21.resultTypes.toList).any (Try.prog.veiledRec ·)) = true := by kernel_rfl
theorem k_fits : Rows.columnSmallRow.veiledFits Try.prog Try.f21.params.toList ((Try.f21.params.toList ++ Rows.columnSmallSpec.plain.varTypes Try.prog) ++ Try.f21.resultTypes.toList) = true := by kernel_rfl
theorem k_kinds : (Rows.columnSmallRow.kinds == (if Rows.columnSmallRow.domain.isEmpty then [] else Try.f21.params.toList.map fun t => match Try.prog.underlying t with | some (.int k) => some k | _ => none)) = true := by kernel_rfl
theorem k_pins : (Rows.columnSmallRow.pinned == Rows.columnSmallRow.pinnedBy) = true := by kernel_rfl
theorem k_stops : (Rows.columnSmallRow.stops == []) = true := by kernel_rfl
theorem k_knobs : (Rows.columnSmallRow.knobs == []) = true := by kernel_rfl
theorem k_vars : Rows.columnSmallSpec.vars.all (Try.prog.varReadable ·) = true := by kernel_rfl
theorem k_plain : Rows.columnSmallRow.plainKeys = true := by kernel_rfl
theorem k_short : Rows.columnSmallRow.shortTexts.isNone = true := by kernel_rfl
theorem k_lift : Rows.columnSmallRow.lifted = false := by kernel_rfl
theorem k_make : Rows.columnSmallRow.make = .cut := by kernel_rfl
theorem k_func : Try.prog.funcNamed Rows.columnSmallRow.func = some 21 := by kernel_rfl
theorem k_plain2 : (Rows.columnSmallRow.plainKeys == Try.prog.plainKeys) = (Rows.columnSmallRow.plainKeys == true) := by rw [fact_plainKeys]
theorem k_lift2 : (Rows.columnSmallRow.lifted == Try.prog.liftsFinal) = (Rows.columnSmallRow.lifted == false) := by rw [fact_liftsFinal]
theorem k_make2 : (Try.prog.make == some Rows.columnSmallRow.make) = true := by rw [fact_make, k_make]; rfl
set_option maxRecDepth 100000 in
theorem closed : joinedFacts Try.prog 21 Try.f21 Rows.columnSmallSpec Rows.columnSmallRow = true :=
  joined_of Try.prog 21 Try.f21 Rows.columnSmallSpec Rows.columnSmallRow k_wf fact_laidOut fact_mapsRowed k_params k_tie k_stops fact_stops k_knobs fact_stopKnobs k_inPlace k_unfollowed k_recurses k_named k_maps k_ifaces k_mapsOut k_loops k_wideKeys k_vars k_results k_ifacesOut k_loopsOut k_plain2 k_plain k_short fact_stopsHeard fact_mayEnter k_lift2 k_lift k_make2 k_kinds k_pins k_veiled k_fits
theorem over : Rows.columnSmallRow.holds Try.pinned (OpenSpec.ofChange Rows.columnSmallSpec) :=
  OpenClaim.holds_of_wide 21 Try.f21 rfl rfl rfl rfl rfl rfl rfl ⟨rfl, rfl, rfl, rfl, rfl⟩ rfl rfl rfl rfl rfl k_func Try.func21 closed
    (of_decide_eq_true (by kernel_rfl)) (by unfold Func.isWrapper; first | (rw [if_pos (by decide +kernel)]; kernel_rfl) | (rw [if_neg (by decide +kernel)]; exact ⟨rfl, rfl⟩))
    (fun os started H enc _ => lifted os started H enc)
theorem proved : Rows.ColumnSmallSaid := over
#print axioms proved
end Go.Proofs.Ytlmcefhpnfoahaa.columnSmall
namespace Go.Proofs.Ytlmcefhpnfoahaa
/-- The row, under a short name, for the claim. -/
theorem columnSmall_holds : Rows.ColumnSmallSaid := columnSmall.proved
end Go.Proofs.Ytlmcefhpnfoahaa
end
