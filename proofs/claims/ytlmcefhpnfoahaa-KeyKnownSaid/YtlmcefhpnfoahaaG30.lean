/- key.Append computes key_Append.f: the walk of the function's text. No condition but what key_Append.f itself asks. -/
import Derived.Test.YtlmcefhpnfoahaaPf73
import Derived.Test.YtlmcefhpnfoahaaK
import Derived.Test.YtlmcefhpnfoahaaSKey
namespace Go.Proofs.Ytlmcefhpnfoahaa.P
open Go.RowKit Go.Proofs.YtlmcefhpnfoahaaW.PrintWords Go.Proofs.YtlmcefhpnfoahaaW.PrintLast Go.Proofs.YtlmcefhpnfoahaaW.PrintMore
set_option linter.unusedVariables false
set_option linter.unusedSimpArgs false

theorem may_of (x : S39) : key_may.f x.f0 x.f1 x.f2 = some (mayB x) := by
  unfold key_may.f mayB
  have e : ∀ l : List UInt8, (l == ([] : List UInt8)) = l.isEmpty := by intro l; cases l <;> rfl
  simp only [e]
  by_cases h0 : x.f0 = 0
  · simp [h0]
  · by_cases h1 : x.f0 = 1
    · rw [if_neg h0, if_pos h1]
      by_cases a : x.f1 = 0
      · simp [h1, a]
      · by_cases b : x.f1 = 1
        · simp [h1, b]
        · simp [h1, a, b]
    · by_cases h2 : x.f0 = 2
      · simp [h2]
      · by_cases h3 : x.f0 = 3
        · simp [h3]
        · rw [if_neg h0, if_neg h1, if_neg h2, if_neg h3]
          simp [h0, h1, h2, h3]
theorem may_kind {x : S39} (h : mayB x = true) : x.f0 = 0 ∨ x.f0 = 1 ∨ x.f0 = 2 ∨ x.f0 = 3 := by
  unfold mayB at h
  simp only [Bool.or_eq_true, Bool.and_eq_true, beq_iff_eq] at h
  omega
theorem take_last {α : Type} (l : List α) (k : Nat) (h : k < l.length) : ∃ r, l = l.take k ++ r := ⟨l.drop k, (List.take_append_drop k l).symm⟩
theorem all_may_no {l : List S39} {k : Nat} (h : k < l.length) (hm : mayB (rd_T39 l k) = false) : l.all mayB = false := by
  rw [List.all_eq_false]
  refine ⟨rd_T39 l k, ?_, by simp [hm]⟩
  unfold rd_T39
  rw [Int.toNat_natCast, List.getD_eq_getElem?_getD, List.getElem?_eq_getElem h]
  exact List.getElem_mem h

set_option maxRecDepth 100000 in
set_option maxHeartbeats 2000000 in
theorem key_Append.calls (A0 : Option Addr) (c0 : Nat) (l0 : List Int) (A1 : Option Addr) (c1 : Nat) (l1 : List S39) (r1 : List Int) (r2 : Int) (w : World) (hr0 : Kd.C (Kd.int .u8) w A0 l0.length l0) (hc0 : l0.length ≤ c0) (hr1 : Kd.C k39 w A1 l1.length l1) (hc1 : l1.length ≤ c1) (h : key_Append.f l0 l1 = some (r1, r2)) :
    Calls Try.prog 30 #[.slice A0 l0.length c0, .slice A1 l1.length c1] w fun e w' => ∃ v0_ : Value, e = .returned (.tuple #[v0_, .int .i64 r2]) ∧ Kd.R (Kd.int .u8) 5 w' w.heap.size (fun _ => True) v0_ r1 ∧ Below w.heap.size w w' := by
  unfold key_Append.f at h
  split at h
  case isFalse => cases h
  rename_i hcond
  obtain ⟨hlen, hnum⟩ := hcond
  have HR0 := Aside0.mk hr0
  have HR1 := Aside0.mk hr1
  have HM1 := Kd.C_max hr1
  have HN := Aside0.mk hnum
  have H := Aside0.mk (Option.some.inj h)
  clear hr0 hr1 hnum h
  go_enter Try.func30, Try.ntmps30
  go_wp2_with (first | (at_builtin; refine (Own.start (Kd.int .u8) 5 w).bytes rfl _ _ HR0.out rfl rfl rfl (by simp; omega) ?_; intro v1 w1 ho hg hat; have HO := Aside0.mk ho; clear ho hg hat))
  go_loopw [6, 16] (fun v6 v16 wr => ∃ k : Nat, k ≤ l1.length ∧ v16 = .int .i64 k ∧ Aside0 (∀ j : Nat, j < k → mayB (rd_T39 l1 j) = true) ∧ Aside0 (Own (Kd.int .u8) 5 w.heap.size w wr v6 (l0 ++ encR (l1.take k)))) (fun _ v16 _ => l1.length - (intOf v16).toNat)
  case atStart => exact ⟨0, Nat.zero_le _, rfl, ⟨fun j hj => absurd hj (Nat.not_lt_zero _)⟩, ⟨HO.out.of_cast (by simp [encR])⟩⟩
  case round =>
    clear HO
    obtain ⟨k, hk, rfl, HA, HO⟩ := hrel
    by_cases hlt : k < l1.length
    · obtain ⟨ad, e, hx0, hx1, hx2⟩ := at_T39 HR1.out k (by omega) (by omega)
      cases e
      have b0 := (HO.out.b.cell (World.block_lt_of_cell? w _ hx0)).trans hx0
      have b1 := (HO.out.b.cell (World.block_lt_of_cell? w _ hx1)).trans hx1
      have b2 := (HO.out.b.cell (World.block_lt_of_cell? w _ hx2)).trans hx2
      clear hx0 hx1 hx2
      rw [Int.toNat_natCast] at b0 b1 b2
      have M := Aside0.mk (may_of (rd_T39 l1 k))
      by_cases hm : mayB (rd_T39 l1 k) = true
      · rw [hm] at M
        have HA1 : Aside0 (∀ j : Nat, j < k + 1 → mayB (rd_T39 l1 j) = true) := ⟨fun j hj => by
          rcases Nat.lt_or_ge j k with h1 | h1
          · exact HA.out j h1
          · obtain rfl : j = k := by omega
            exact hm⟩
        have HE := Aside0.mk (encR_snoc l1 k hlt)
        have LK1 := encR_take_le l1 (k + 1)
        rw [HE.out, List.length_append] at LK1
        have HK := Aside0.mk (may_kind hm)
        have HNk : okNum (rd_T39 l1 k) = true := by
          have := HN.out
          rw [List.all_eq_true] at this
          refine this _ ?_
          unfold rd_T39
          rw [Int.toNat_natCast, List.getD_eq_getElem?_getD, List.getElem?_eq_getElem hlt]
          exact List.getElem_mem hlt
        have HNK := Aside0.mk HNk
        clear HNk hm HA
        generalize rd_T39 l1 k = x at *
        have hL : (l0 ++ encR (l1.take k)).length + (encV x).length ≤ 70368744177664 := by rw [List.length_append]; omega
        have HE2 : Aside0 (l0 ++ encR (l1.take (k + 1)) = (l0 ++ encR (l1.take k)) ++ encV x) := ⟨by rw [HE.out, List.append_assoc]⟩
        clear HE LK1
        generalize l0 ++ encR (l1.take k) = L at *
        rcases HK.out with t | t | t | t
        all_goals clear HK
        · have T0 : (x.f0 == 0) = true := by simp [t]
          have hE : Aside0 (L ++ [1] = l0 ++ encR (l1.take (k + 1))) := ⟨by rw [HE2.out]; simp [encV, t]⟩
          have hl : L.length + 1 ≤ 140737488355328 := by omega
          clear t HE2
          go_wp2_with (first
            | (go_at_call 73; refine (key_may.calls _ _ _ true _ M.out).mono ?_; rintro e w' ⟨rfl, hb'⟩; have BX := Aside0.mk ((Box.made HO.out #[.int .u8 x.f0, .int .i64 x.f1, .string x.f2] 39).step hb'); have q0 := BX.out.cell 0 rfl; have HO1 := Aside0.mk ((HO.out.alloc _).step hb'); clear hb' HO; have HO := HO1; clear HO1)
            | (at_builtin; refine HO.out.byte rfl _ _ _ rfl rfl rfl hl ?_; intro v1 w1 ho hg hat; have HO1 := Aside0.mk ho; clear ho hg hat q0 HO BX; have HO := HO1; clear HO1))
          go_roundw
          case rel => exact ⟨k + 1, by omega, by go_num, HA1, ⟨HO.out.of_cast hE.out⟩⟩
          case measure => simp [intOf]; omega
        · have T0 : (x.f0 == 0) = false := by simp [t]
          have T1 : (x.f0 == 1) = true := by simp [t]
          have hE : Aside0 (L ++ [2, x.f1 % 256] = l0 ++ encR (l1.take (k + 1))) := ⟨by rw [HE2.out]; simp [encV, t]⟩
          have hl : L.length + 2 ≤ 140737488355328 := by omega
          clear t HE2
          go_wp2_with (first
            | (go_at_call 73; refine (key_may.calls _ _ _ true _ M.out).mono ?_; rintro e w' ⟨rfl, hb'⟩; have BX := Aside0.mk ((Box.made HO.out #[.int .u8 x.f0, .int .i64 x.f1, .string x.f2] 39).step hb'); have q0 := BX.out.cell 0 rfl; have q1 := BX.out.cell 1 rfl; have HO1 := Aside0.mk ((HO.out.alloc _).step hb'); clear hb' HO; have HO := HO1; clear HO1)
            | (at_builtin; refine HO.out.byte2 rfl _ _ _ _ rfl rfl rfl hl ?_; intro v1 w1 ho hg hat; have HO1 := Aside0.mk ho; clear ho hg hat q0 q1 HO BX; have HO := HO1; clear HO1))
          go_roundw
          case rel => exact ⟨k + 1, by omega, by go_num, HA1, ⟨HO.out.of_cast hE.out⟩⟩
          case measure => simp [intOf]; omega
        · have T0 : (x.f0 == 0) = false := by simp [t]
          have T1 : (x.f0 == 1) = false := by simp [t]
          have T2 : (x.f0 == 2) = true := by simp [t]
          have hE : Aside0 (L ++ [3] ++ be8 x.f1 = l0 ++ encR (l1.take (k + 1))) := ⟨by rw [HE2.out]; simp [encV, t]⟩
          have hX : Aside0 (bits .xor .u64 (IntKind.u64.wrap x.f1) 9223372036854775808 = x.f1 + 9223372036854775808) := ⟨by
            have h1 := HNK.out
            unfold okNum at h1
            simp only [Bool.and_eq_true, decide_eq_true_eq] at h1
            exact xor_top _ h1.1 h1.2⟩
          have hl : L.length + 1 ≤ 140737488355328 := by omega
          have hl9 : L.length + 9 ≤ 140737488355328 := by omega
          clear t HE2
          go_wp2_with (first
            | (go_at_call 73; refine (key_may.calls _ _ _ true _ M.out).mono ?_; rintro e w' ⟨rfl, hb'⟩; have BX := Aside0.mk ((Box.made HO.out #[.int .u8 x.f0, .int .i64 x.f1, .string x.f2] 39).step hb'); have q0 := BX.out.cell 0 rfl; have HO1 := Aside0.mk ((HO.out.alloc _).step hb'); clear hb' HO; have HO := HO1; clear HO1)
            | (at_builtin; refine HO.out.byte rfl _ _ _ rfl rfl rfl hl ?_; intro v1 w1 ho hg hat; have BX1 := Aside0.mk ((BX.out.alloc _).app hg hat); have HO1 := Aside0.mk ho; clear ho hg hat q0 HO BX; have HO := HO1; have BX := BX1; clear HO1 BX1))
          go_loopw [6, 9] (fun v6 v9 W => ∃ j : Nat, j ≤ 8 ∧ v9 = .int .i64 (56 - 8 * j) ∧ Aside0 (Own (Kd.int .u8) 5 w.heap.size w W v6 (L ++ [3] ++ (be8 x.f1).take j)) ∧ Aside0 (Box W wr.heap.size #[.int .u8 x.f0, .int .i64 x.f1, .string x.f2] 39 (0, 0) v6)) (fun _ v9 _ => (intOf v9 + 8).toNat)
          case atStart => exact ⟨0, by omega, rfl, ⟨HO.out.of_cast (by simp)⟩, BX⟩
          case round =>
            clear HO BX
            obtain ⟨j, hj, rfl, HO, BX⟩ := hrel
            by_cases hj8 : j < 8
            · have q1 := BX.out.cell 1 rfl
              have t8 : (8 * (j : Int)) ≤ 56 := by omega
              have hl2 : (L ++ [3] ++ (be8 x.f1).take j).length + 1 ≤ 140737488355328 := by
                rw [List.length_append, List.length_append, List.length_take, be8_length, List.length_singleton]; omega
              go_wp2_with (at_builtin; refine HO.out.byte rfl _ _ _ rfl rfl rfl hl2 ?_; intro v1 w1 ho hg hat; have BX1 := Aside0.mk ((BX.out.alloc _).app hg hat); have HO1 := Aside0.mk ho; clear ho hg hat q1 HO BX; have HO := HO1; have BX := BX1; clear HO1 BX1)
              go_roundw
              case rel => exact ⟨j + 1, by omega, by go_num, ⟨HO.out.of_cast (by rw [hX.out, be8_take _ _ hj8, List.append_assoc])⟩, BX⟩
              case measure => simp [intOf]; omega
            · obtain rfl : j = 8 := by omega
              go_wp2_with fail
              go_roundw
              case rel => exact ⟨k + 1, by omega, by go_num, HA1, ⟨HO.out.of_cast (by rw [← hE.out]; rfl)⟩⟩
              case measure => simp [intOf]; omega
        · have T0 : (x.f0 == 0) = false := by simp [t]
          have T1 : (x.f0 == 1) = false := by simp [t]
          have T2 : (x.f0 == 2) = false := by simp [t]
          have hE : Aside0 (L ++ [4] ++ esc (bytesOf x.f2) ++ [0, 1] = l0 ++ encR (l1.take (k + 1))) := ⟨by rw [HE2.out]; simp [encV, t]⟩
          have hl : L.length + 1 ≤ 140737488355328 := by omega
          have hle : L.length + 3 + (esc (bytesOf x.f2)).length ≤ 70368744177664 := by
            have : (encV x).length = (esc (bytesOf x.f2)).length + 3 := by simp [encV, t]
            omega
          have hb0 := esc_ge (bytesOf x.f2)
          rw [bytesOf_length] at hb0
          have kc := conv_bytes x.f2
          have HLE := Aside0.mk hle
          have hsz : x.f2.size ≤ 70368744177664 := by omega
          clear t HE2 hb0 hle
          go_wp2_with (first
            | (go_at_call 73; refine (key_may.calls _ _ _ true _ M.out).mono ?_; rintro e w' ⟨rfl, hb'⟩; have BX := Aside0.mk ((Box.made HO.out #[.int .u8 x.f0, .int .i64 x.f1, .string x.f2] 39).step hb'); have q0 := BX.out.cell 0 rfl; have q2 := BX.out.cell 2 rfl; have HO1 := Aside0.mk ((HO.out.alloc _).step hb'); clear hb' HO; have HO := HO1; clear HO1)
            | (at_builtin; refine HO.out.byte rfl _ _ _ rfl rfl rfl hl ?_; intro v1 w1 ho hg hat; have BX1 := Aside0.mk ((BX.out.alloc _).app hg hat); have HO1 := Aside0.mk ho; clear ho hg hat q0 q2 HO BX; have HO := HO1; have BX := BX1; have q2 := BX.out.cell 2 rfl; clear HO1 BX1))
          have BY := Aside0.mk (Box.conv HO.out x.f2)
          have HO1 := Aside0.mk (HO.out.bytesWorld x.f2)
          have HC := Aside0.mk (bytesCells_at w1 x.f2)
          clear HO BX q2
          have HO := HO1
          clear HO1
          generalize Lib.bytesCells w1 5 x.f2 = C at *
          go_loopw [6, 32] (fun v6 v32 W => ∃ j : Nat, j ≤ x.f2.size ∧ v32 = .int .i64 j ∧ Aside0 (Own (Kd.int .u8) 5 w.heap.size w W v6 (L ++ [4] ++ esc ((bytesOf x.f2).take j))) ∧ Aside0 (Box W w1.heap.size C 5 (C.size, C.size + 1) v6)) (fun _ v32 _ => x.f2.size - (intOf v32).toNat)
          case atStart => exact ⟨0, by omega, rfl, ⟨HO.out.of_cast (by simp [esc])⟩, BY⟩
          case round =>
            clear HO BY kc
            obtain ⟨j, hj, rfl, HO, BY⟩ := hrel
            have hl2 : (L ++ [4] ++ esc ((bytesOf x.f2).take j)).length + 3 ≤ 140737488355328 := by
              have := esc_take_le (bytesOf x.f2) j
              have := HLE.out
              rw [List.length_append, List.length_append, List.length_singleton]; omega
            by_cases hjs : j < x.f2.size
            · have q := BY.out.cell j (HC.out j hjs)
              have hs := esc_snoc (bytesOf x.f2) j (by rw [bytesOf_length]; exact hjs)
              by_cases hz : rd (bytesOf x.f2) j = 0
              · have Z : (rd (bytesOf x.f2) j == 0) = true := by simp [hz]
                have hs2 : Aside0 (esc ((bytesOf x.f2).take (j + 1)) = esc ((bytesOf x.f2).take j) ++ [rd (bytesOf x.f2) j, 255]) := ⟨by rw [hs, if_pos hz]⟩
                clear hs hz
                have hl3 : (L ++ [4] ++ esc ((bytesOf x.f2).take j)).length + 1 ≤ 140737488355328 := by omega
                have hl4 : (L ++ [4] ++ esc ((bytesOf x.f2).take j) ++ [rd (bytesOf x.f2) j]).length + 1 ≤ 140737488355328 := by rw [List.length_append, List.length_singleton]; omega
                go_wp2_with (at_builtin; refine HO.out.byte rfl _ _ _ rfl rfl rfl (by first | exact hl3 | exact hl4) ?_; intro v1 w1 ho hg hat; have BX1 := Aside0.mk ((BY.out.alloc _).app hg hat); have HO1 := Aside0.mk ho; clear ho hg hat HO BY; have HO := HO1; have BY := BX1; clear HO1 BX1)
                go_roundw
                case rel => exact ⟨j + 1, by omega, by go_num, ⟨HO.out.of_cast (by rw [hs2.out]; simp)⟩, BY⟩
                case measure => simp [intOf]; omega
              · have Z : (rd (bytesOf x.f2) j == 0) = false := by simp [hz]
                have hs2 : Aside0 (esc ((bytesOf x.f2).take (j + 1)) = esc ((bytesOf x.f2).take j) ++ [rd (bytesOf x.f2) j]) := ⟨by rw [hs, if_neg hz]⟩
                clear hs hz
                have hl3 : (L ++ [4] ++ esc ((bytesOf x.f2).take j)).length + 1 ≤ 140737488355328 := by omega
                go_wp2_with (at_builtin; refine HO.out.byte rfl _ _ _ rfl rfl rfl hl3 ?_; intro v1 w1 ho hg hat; have BX1 := Aside0.mk ((BY.out.alloc _).app hg hat); have HO1 := Aside0.mk ho; clear ho hg hat HO BY; have HO := HO1; have BY := BX1; clear HO1 BX1)
                go_roundw
                case rel => exact ⟨j + 1, by omega, by go_num, ⟨HO.out.of_cast (by rw [hs2.out]; simp)⟩, BY⟩
                case measure => simp [intOf]; omega
            · obtain rfl : j = x.f2.size := by omega
              have hl3 : (L ++ [4] ++ esc ((bytesOf x.f2).take x.f2.size)).length + 2 ≤ 140737488355328 := by omega
              go_wp2_with (at_builtin; refine HO.out.byte2 rfl _ _ _ _ rfl rfl rfl hl3 ?_; intro v1 w1 ho hg hat; have HO1 := Aside0.mk ho; clear ho hg hat HO BY; have HO := HO1; clear HO1)
              go_roundw
              case rel => exact ⟨k + 1, by omega, by go_num, HA1, ⟨HO.out.of_cast (by rw [← hE.out, ← bytesOf_length, List.take_length])⟩⟩
              case measure => simp [intOf]; omega
      · have hm' : mayB (rd_T39 l1 k) = false := by simpa using hm
        rw [hm'] at M
        have hf := H.out
        rw [all_may_no hlt hm'] at hf
        simp only [Bool.false_eq_true, if_false, Prod.mk.injEq] at hf
        obtain ⟨rfl, rfl⟩ := hf
        clear hm hm' HA H
        go_wp2_with (go_at_call 73; refine (key_may.calls _ _ _ false _ M.out).mono ?_; rintro e w' ⟨rfl, hb'⟩; have HO1 := Aside0.mk ((HO.out.alloc _).step hb'); clear hb' HO; have HO := HO1; clear HO1)
        go_ret2
        exact ⟨_, rfl, Kd.R_nil _ _ _ _ _, HO.out.b⟩
    · obtain rfl : k = l1.length := by omega
      have ha : l1.all mayB = true := by
        rw [List.all_eq_true]
        intro y hy
        obtain ⟨j, hj, rfl⟩ := List.getElem_of_mem hy
        have := HA.out j hj
        unfold rd_T39 at this
        rwa [Int.toNat_natCast, List.getD_eq_getElem?_getD, List.getElem?_eq_getElem hj] at this
      have hf := H.out
      rw [if_pos ha] at hf
      simp only [Prod.mk.injEq] at hf
      obtain ⟨rfl, rfl⟩ := hf
      have HO1 := Aside0.mk (HO.out.of_cast (ys := l0 ++ encR l1) (by rw [List.take_length]))
      clear ha HA H HO
      go_wp2_with fail
      go_ret2
      exact ⟨_, rfl, HO1.out.r, HO1.out.b⟩
end Go.Proofs.Ytlmcefhpnfoahaa.P
