/- key.readText answers rdText, and a part of what it was handed. Condition: bytes are handed over. -/
import Derived.Test.YtlmcefhpnfoahaaG112
namespace Go.Proofs.Ytlmcefhpnfoahaa.P
open Go.RowKit Go.Proofs.YtlmcefhpnfoahaaW.PrintWords Go.Proofs.YtlmcefhpnfoahaaW.PrintLast Go.Proofs.YtlmcefhpnfoahaaW.PrintMore
set_option linter.unusedVariables false
set_option linter.unusedSimpArgs false

theorem rdEsc_nil (s : List Int) : rdEsc s [] = ([], [], 20) := by unfold rdEsc; rfl
theorem rdEsc_char (s l : List Int) (h : 0 < l.length) (h0 : rd l 0 ≠ 0) : rdEsc s l = rdEsc (s ++ [rd l 0]) (l.drop 1) := by
  rcases l with _ | ⟨c, r⟩
  · simp at h
  · have : c ≠ 0 := h0
    rcases r with _ | ⟨d, r⟩ <;> (conv => lhs; unfold rdEsc) <;> simp [this, rd]
theorem rdEsc_end (s l : List Int) (h : l.length = 1) (h0 : rd l 0 = 0) : rdEsc s l = ([], [], 20) := by
  rcases l with _ | ⟨c, _ | ⟨d, r⟩⟩
  · simp at h
  · have : c = 0 := h0
    (conv => lhs; unfold rdEsc); simp [this]
  · simp at h
theorem rdEsc_two (s l : List Int) (h : 1 < l.length) (h0 : rd l 0 = 0) : rdEsc s l = if rd l 1 = 1 then (s, l.drop 2, 0) else if rd l 1 = 255 then rdEsc (s ++ [0]) (l.drop 2) else ([], [], 21) := by
  rcases l with _ | ⟨c, _ | ⟨d, r⟩⟩
  · simp at h
  · simp at h
  · have : c = 0 := h0
    (conv => lhs; unfold rdEsc); simp [this, rd]
theorem rd_drop (l : List Int) (m i : Nat) : rd (l.drop m) i = rd l ((m + i : Nat) : Int) := by
  unfold rd
  simp only [Int.toNat_natCast, List.getD_eq_getElem?_getD, List.getElem?_drop]

set_option maxRecDepth 100000 in
set_option maxHeartbeats 3200000 in
theorem readText_read (A : Option Addr) (n c : Nat) (l : List Int) (w : World) (hr : Kd.C (Kd.int .u8) w A n l) (hc : n ≤ c) (hb : ∀ x ∈ l, isByte x = true) (hlen : n ≤ 70368744177664) :
    Calls Try.prog 114 #[.slice A n c] w (ReadPost A n l w (rdText l)) := by
  have HR := Aside0.mk hr
  have hm := Kd.C_max hr
  have HL := Aside0.mk (Kd.C_len hr)
  have HB := Aside0.mk hb
  clear hr hb
  have HO := Aside0.mk ((Own.start (Kd.int .u8) 5 w).alloc (.cells #[.int .u8 0, .int .i64 0, .string ⟨#[]⟩] 39))
  have BX := Aside0.mk (Box.made (Own.start (Kd.int .u8) 5 w) #[.int .u8 0, .int .i64 0, .string ⟨#[]⟩] 39)
  go_enter Try.func114, Try.ntmps114
  go_wp2
  go_step3
  go_wp2
  go_step3
  go_wp2
  go_loopw [0, 5] (fun v0 v5 wr => ∃ (A' : Option Addr) (n' c' : Nat) (l' s : List Int), v0 = .slice A' n' c' ∧ n' ≤ c' ∧ s.length + n' ≤ n ∧ Aside0 (l'.length = n') ∧ Aside0 (∀ W : World, Kd.C (Kd.int .u8) W A n l → Kd.C (Kd.int .u8) W A' n' l') ∧ Aside0 (rdEsc [] l = rdEsc s l') ∧ Aside0 (∀ x ∈ l', isByte x = true) ∧
      Aside0 (Own (Kd.int .u8) 5 w.heap.size w wr v5 s) ∧ Aside0 (Box wr w.heap.size #[.int .u8 0, .int .i64 0, .string ⟨#[]⟩] 39 (0, 0) v5)) (fun v0 _ _ => lenOf v0)
  case atStart => exact ⟨A, n, c, l, [], rfl, hc, by simp, HL, ⟨fun _ h => h⟩, ⟨rfl⟩, HB, HO, BX⟩
  case round =>
    clear HO BX HB HL
    obtain ⟨A', n', c', l', s, rfl, hc', hsn, HL', HC, HE, HB', HO, BX⟩ := hrel
    have y0 := BX.out.cell 0 rfl
    have y1 := BX.out.cell 1 rfl
    have y2 := BX.out.cell 2 rfl
    have f0 := BX.out.frz 0
    have f1 := BX.out.frz 1
    have f2 := BX.out.frz 2
    by_cases hz : n' = 0
    · have z2 : ¬ (0 < n') := by omega
      have Hf : Aside0 (rdText l = (z39, [], 20)) := ⟨by
        have e : l' = [] := List.eq_nil_of_length_eq_zero (by rw [HL'.out]; exact hz)
        unfold rdText; rw [HE.out, e, rdEsc_nil]; rfl⟩
      clear hz HE
      go_wp2
      rw [Exit.noGoto_ret]
      refine bodyPost_ret (results_ctt rfl _ _ w.heap.size 39 #[.int .u8 0, .int .i64 0, .string ⟨#[]⟩] (0, 0) _ rfl BX.out.put3 Try.underlying39 rfl (by kernel_rfl)) rfl ?_
      exact ReadPost.none_ Hf.out (below3 HO.out.b (Nat.le_refl _) _ _ _)
    · have hp : 0 < n' := by omega
      have hp' : (0 : Int) < (n' : Int) := by omega
      obtain ⟨ad, e, hx⟩ := C_rd (HC.out w HR.out) 0 hp
      subst e
      rw [Addr.add_zero'] at hx
      have hx2 := (HO.out.b.cell (World.block_lt_of_cell? w _ hx)).trans hx
      have hrb := rd_isByte HB'.out 0 (by have := HL'.out; omega)
      have e0 : rd l' ((0 : Nat) : Int) = rd l' 0 := rfl
      rw [e0] at hx2 hrb
      clear hx e0
      obtain ⟨r1, r2⟩ := hrb
      obtain ⟨A2, n2, c2, k1, k2, k3, k4⟩ := cut_from (some ad) n' c' l' 1 HL'.out (by omega) (by omega) hc'
      have k2' : n2 = n' - 1 := k2
      have HC2 : Aside0 (∀ W : World, Kd.C (Kd.int .u8) W A n l → Kd.C (Kd.int .u8) W A2 n2 (l'.drop 1)) := ⟨fun W h => k4 W (HC.out W h)⟩
      have HL2 : Aside0 ((l'.drop 1).length = n2) := ⟨by rw [List.length_drop, HL'.out, k2']⟩
      have HB2 : Aside0 (∀ x ∈ l'.drop 1, isByte x = true) := ⟨fun x hx => HB'.out x (List.mem_of_mem_drop hx)⟩
      have i1 : n2 ≤ n' - 1 := by omega
      have i2 : n' - 1 ≤ n2 := by omega
      clear k2 k2' k4
      by_cases hc0 : rd l' 0 = 0
      · have z : (rd l' 0 != 0) = false := by simp [hc0]
        by_cases hn2 : n2 = 0
        · have z2 : ((n2 : Int) == 0) = true := by simp [hn2]
          have Hf : Aside0 (rdText l = (z39, [], 20)) := ⟨by
            unfold rdText; rw [HE.out, rdEsc_end s l' (by rw [HL'.out]; omega) hc0]; rfl⟩
          clear hc0 hn2 HE HC2 HL2 HB2 HC HL' HB'
          go_wp2
          rw [Exit.noGoto_ret]
          refine bodyPost_ret (results_ctt rfl _ _ w.heap.size 39 #[.int .u8 0, .int .i64 0, .string ⟨#[]⟩] (0, 0) _ rfl BX.out.put3 Try.underlying39 rfl (by kernel_rfl)) rfl ?_
          exact ReadPost.none_ Hf.out (below3 HO.out.b (Nat.le_refl _) _ _ _)
        · have z2 : ((n2 : Int) == 0) = false := by simp; omega
          have hq : 0 < n2 := by omega
          have hq' : (0 : Int) < (n2 : Int) := by omega
          obtain ⟨ae, e, hy⟩ := C_rd (HC2.out w HR.out) 0 hq
          subst e
          rw [Addr.add_zero'] at hy
          have hy2 := (HO.out.b.cell (World.block_lt_of_cell? w _ hy)).trans hy
          have e1 : rd (l'.drop 1) ((0 : Nat) : Int) = rd l' 1 := rd_drop l' 1 0
          rw [e1] at hy2
          clear hy e1
          obtain ⟨A3, n3, c3, m1, m2, m3, m4⟩ := cut_from (some ae) n2 c2 (l'.drop 1) 1 HL2.out (by omega) (by omega) k3
          have m2' : n3 = n2 - 1 := m2
          have e2 : (l'.drop 1).drop (1 : Int).toNat = l'.drop 2 := by rw [List.drop_drop]; rfl
          rw [e2] at m4
          have HC3 : Aside0 (∀ W : World, Kd.C (Kd.int .u8) W A n l → Kd.C (Kd.int .u8) W A3 n3 (l'.drop 2)) := ⟨fun W h => m4 W (HC2.out W h)⟩
          have HL3 : Aside0 ((l'.drop 2).length = n3) := ⟨by rw [List.length_drop, HL'.out]; omega⟩
          have HB3 : Aside0 (∀ x ∈ l'.drop 2, isByte x = true) := ⟨fun x hx => HB'.out x (List.mem_of_mem_drop hx)⟩
          have i3 : n3 ≤ n2 - 1 := by omega
          have HT := Aside0.mk (rdEsc_two s l' (by have := HL'.out; omega) hc0)
          clear m2 m2' m4 e2 hc0 hn2
          by_cases d1 : rd l' 1 = 1
          · have t1 : (rd l' 1 == 1) = true := by simp [d1]
            have Hf : Aside0 (rdText l = (⟨3, 0, strOfNums s⟩, l'.drop 2, 0)) := ⟨by
              unfold rdText; rw [HE.out, HT.out, if_pos d1]; rfl⟩
            obtain ⟨As, cs, ev, hs1, hs2⟩ := HO.out.sl
            subst ev
            have kst : ∀ q : Nat, (convert 22 9 (.slice As s.length cs)).run Try.prog (wr.drewN q) = .ok (.string (strOfNums s)) (wr.drewN q) := fun q => (HO.out.drewN q).str
            clear d1 HT HE
            go_wp2
            go_quiet (fail)
            go_wp2
            rw [Exit.noGoto_ret]
            refine bodyPost_ret (results_ctt rfl _ _ w.heap.size 39 #[.int .u8 3, .int .i64 0, .string (strOfNums s)] (0, 0) _ rfl (BX.out.drewN _).put3 Try.underlying39 rfl (by kernel_rfl)) rfl ?_
            rw [Hf.out]
            exact ⟨A3, n3, c3, rfl, HL3.out, m3, HC3.out, below3 (HO.out.drewN _).b (Nat.le_refl _) _ _ _⟩
          · have t1 : (rd l' 1 == 1) = false := by simp [d1]
            by_cases d2 : rd l' 1 = 255
            · have t2 : (rd l' 1 == 255) = true := by simp [d2]
              have HE' : Aside0 (rdEsc [] l = rdEsc (s ++ [0]) (l'.drop 2)) := ⟨by rw [HE.out, HT.out, if_neg d1, if_pos d2]⟩
              have hl : s.length + 1 ≤ 140737488355328 := by omega
              clear d1 d2 HT HE
              go_wp2
              go_quiet (fail)
              go_wp2_with (at_builtin; refine (HO.out.drewN _).byte rfl _ _ _ rfl rfl rfl hl ?_; intro v1 w1 ho hg hat; have BX1 := Aside0.mk (((BX.out.drewN _).alloc _).app hg hat); have HO1 := Aside0.mk ho; clear ho hg hat y0 y1 y2 f0 f1 f2 HO BX; have HO := HO1; have BX := BX1; clear HO1 BX1)
              go_roundw
              case rel => exact ⟨A3, n3, c3, l'.drop 2, s ++ [0], rfl, m3, by rw [List.length_append, List.length_singleton]; omega, HL3, HC3, HE', HB3, HO, BX⟩
              case measure => simp [lenOf]; omega
            · have t2 : (rd l' 1 == 255) = false := by simp [d2]
              have Hf : Aside0 (rdText l = (z39, [], 21)) := ⟨by
                unfold rdText; rw [HE.out, HT.out, if_neg d1, if_neg d2]; rfl⟩
              clear d1 d2 HT HE
              go_wp2
              go_quiet (fail)
              go_wp2
              rw [Exit.noGoto_ret]
              refine bodyPost_ret (results_ctt rfl _ _ w.heap.size 39 #[.int .u8 0, .int .i64 0, .string ⟨#[]⟩] (0, 0) _ rfl (BX.out.drewN _).put3 Try.underlying39 rfl (by kernel_rfl)) rfl ?_
              exact ReadPost.none_ Hf.out (below3 (HO.out.drewN _).b (Nat.le_refl _) _ _ _)
      · have z : (rd l' 0 != 0) = true := by simp [hc0]
        have HE' : Aside0 (rdEsc [] l = rdEsc (s ++ [rd l' 0]) (l'.drop 1)) := ⟨by rw [HE.out, rdEsc_char s l' (by rw [HL'.out]; exact hp) hc0]⟩
        have hl : s.length + 1 ≤ 140737488355328 := by omega
        clear hc0 HE
        go_wp2_with (at_builtin; refine HO.out.byte rfl _ _ _ rfl rfl rfl hl ?_; intro v1 w1 ho hg hat; have BX1 := Aside0.mk ((BX.out.alloc _).app hg hat); have HO1 := Aside0.mk ho; clear ho hg hat y0 y1 y2 f0 f1 f2 HO BX; have HO := HO1; have BX := BX1; clear HO1 BX1)
        go_roundw
        case rel => exact ⟨A2, n2, c2, l'.drop 1, s ++ [rd l' 0], rfl, k3, by rw [List.length_append, List.length_singleton]; omega, HL2, HC2, HE', HB2, HO, BX⟩
        case measure => simp [lenOf]; omega
end Go.Proofs.Ytlmcefhpnfoahaa.P
