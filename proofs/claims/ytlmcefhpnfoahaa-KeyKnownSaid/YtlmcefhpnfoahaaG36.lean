/- key.Parse computes key_Parse.f, key.After computes key_After.f: the walks of the functions' texts. No condition but what key_Parse.f and key_After.f themselves ask. -/
import Derived.Test.YtlmcefhpnfoahaaG75
import Derived.Test.YtlmcefhpnfoahaaG114
namespace Go.Proofs.Ytlmcefhpnfoahaa.P
open Go.RowKit Go.Proofs.YtlmcefhpnfoahaaW.PrintWords Go.Proofs.YtlmcefhpnfoahaaW.PrintLast Go.Proofs.YtlmcefhpnfoahaaW.PrintMore
set_option linter.unusedVariables false
set_option linter.unusedSimpArgs false

set_option maxHeartbeats 800000 in
theorem key_After.calls (A0 : Option Addr) (c0 : Nat) (l0 : List Int) (r : List Int) (w : World) (hr0 : Kd.C (Kd.int .u8) w A0 l0.length l0) (hc0 : l0.length ≤ c0) (h : key_After.f l0 = some r) :
    Calls Try.prog 38 #[.slice A0 l0.length c0] w fun e w' => ∃ v0_ : Value, e = .returned (v0_) ∧ Kd.R (Kd.int .u8) 5 w' w.heap.size (fun _ => True) v0_ r ∧ Below w.heap.size w w' := by
  unfold key_After.f at h
  split at h
  case isFalse => cases h
  rename_i hlen
  obtain rfl := Option.some.inj h
  have HR0 := Aside0.mk hr0
  clear hr0 h
  go_enter Try.func38, Try.ntmps38
  go_wp2_with (first | (at_builtin; refine (Own.start (Kd.int .u8) 5 w).bytes rfl _ _ HR0.out rfl rfl rfl (by simp; omega) ?_; intro v1 w1 ho hg hat; have HO := Aside0.mk ho; clear ho hg hat) | (at_builtin; refine HO.out.byte rfl _ _ _ rfl rfl rfl (by simp; omega) ?_; intro v2 w2 ho hg hat; have HO1 := Aside0.mk ho; clear ho hg hat))
  go_ret
  exact ⟨_, rfl, HO1.out.r, HO1.out.b⟩

theorem readers_find (c : Int) : Instr.findNow (.int .u8) (.int .u8 c) readersMap.toList 0 =
    if c = 1 then some (some (0, .func (.func 111) #[] #[])) else if c = 2 then some (some (1, .func (.func 112) #[] #[])) else if c = 3 then some (some (2, .func (.func 113) #[] #[])) else if c = 4 then some (some (3, .func (.func 114) #[] #[])) else some none := by
  simp only [readersMap, Instr.findNow, Instr.sameNow, if_true]
  by_cases h1 : c = 1
  · subst h1; rfl
  · by_cases h2 : c = 2
    · subst h2; rfl
    · by_cases h3 : c = 3
      · subst h3; rfl
      · by_cases h4 : c = 4
        · subst h4; rfl
        · have e1 : (c == 1) = false := by simp [h1]
          have e2 : (c == 2) = false := by simp [h2]
          have e3 : (c == 3) = false := by simp [h3]
          have e4 : (c == 4) = false := by simp [h4]
          rw [e1, e2, e3, e4, if_neg h1, if_neg h2, if_neg h3, if_neg h4]

/-- Any of the readers, at what it is handed. -/
theorem reader_any (f : FuncId) (c : Int) (hf : (c = 1 ∧ f = 111) ∨ (c = 2 ∧ f = 112) ∨ (c = 3 ∧ f = 113) ∨ (c = 4 ∧ f = 114)) (A : Option Addr) (n k : Nat) (l : List Int) (w : World) (hr : Kd.C (Kd.int .u8) w A n l) (hc : n ≤ k) (hb : ∀ x ∈ l, isByte x = true) (hlen : n ≤ 70368744177664) :
    Calls Try.prog f #[.slice A n k] w (ReadPost A n l w (stepR c l)) := by
  rcases hf with ⟨rfl, rfl⟩ | ⟨rfl, rfl⟩ | ⟨rfl, rfl⟩ | ⟨rfl, rfl⟩
  · exact readNull_read A n k l w (Kd.C_len hr) hc
  · exact readTruth_read A n k l w hr hc hb
  · exact readNumber_read A n k l w hr hc hb
  · exact readText_read A n k l w hr hc hb hlen

set_option maxRecDepth 100000 in
set_option maxHeartbeats 3200000 in
theorem key_Parse.calls (A0 : Option Addr) (c0 : Nat) (l0 : List Int) (r1 : List S39) (r2 : Int) (w : World) (hr0 : Kd.C (Kd.int .u8) w A0 l0.length l0) (hc0 : l0.length ≤ c0) (h : key_Parse.f l0 = some (r1, r2)) :
    Calls Try.prog 36 #[.slice A0 l0.length c0] w fun e w' => ∃ v0_ : Value, e = .returned (.tuple #[v0_, .int .i64 r2]) ∧ Kd.R k39 39 w' w.heap.size (fun _ => True) v0_ r1 ∧ Below w.heap.size w w' := by
  unfold key_Parse.f at h
  split at h
  case isFalse => cases h
  rename_i hcond
  obtain ⟨hlen, hby, hlen2⟩ := hcond
  rw [List.all_eq_true] at hby
  have HR := Aside0.mk hr0
  have HB := Aside0.mk hby
  have H := Aside0.mk (Option.some.inj h)
  have hN : ∃ N, N = l0.length := ⟨_, rfl⟩
  clear hr0 hby h
  go_enter Try.func36, Try.ntmps36
  go_wp2_with (go_at_call 75; refine (readers_any _).mono ?_; rintro e w' ⟨rfl, rfl⟩)
  have HO := Aside0.mk ((Own.start k39 39 w).alloc (.map readersMap 4))
  have BX : Aside0 (Blk (w.alloc (.map readersMap 4)) w.heap.size (.map readersMap 4) (.slice none 0 0)) := ⟨⟨heap_alloc_new w _, by simp [Value.ownBlock]⟩⟩
  go_loopw [0, 4] (fun v0 v4 wr => ∃ (A' : Option Addr) (n' c' : Nat) (l' : List Int) (out : List S39) (k : Nat), v0 = .slice A' n' c' ∧ n' ≤ c' ∧ n' ≤ l0.length ∧ n' < k ∧ out.length + n' ≤ l0.length ∧ Aside0 (l'.length = n') ∧ Aside0 (∀ W : World, Kd.C (Kd.int .u8) W A0 l0.length l0 → Kd.C (Kd.int .u8) W A' n' l') ∧
      Aside0 (parseF k out l' = (r1, r2)) ∧ Aside0 (∀ x ∈ l', isByte x = true) ∧ Aside0 (Own k39 39 w.heap.size w wr v4 out) ∧ Aside0 (Blk wr w.heap.size (.map readersMap 4) v4)) (fun v0 _ _ => lenOf v0)
  case atStart => exact ⟨A0, l0.length, c0, l0, [], l0.length + 1, rfl, hc0, Nat.le_refl _, by omega, by simp, ⟨rfl⟩, ⟨fun _ h => h⟩, H, HB, HO, BX⟩
  case round =>
    clear HO BX HB H
    obtain ⟨A', n', c', l', out, k, rfl, hc', hn0, hnk, hon, HL', HC, HE, HB', HO, BX⟩ := hrel
    obtain ⟨k, rfl⟩ : ∃ m, k = m + 1 := ⟨k - 1, by omega⟩
    by_cases hz : n' = 0
    · have z2 : ¬ (0 < n') := by omega
      have hf := HE.out
      unfold parseF at hf
      rw [if_pos (by rw [HL'.out]; exact hz)] at hf
      simp only [Prod.mk.injEq] at hf
      obtain ⟨rfl, rfl⟩ := hf
      clear hz HE
      go_wp2
      go_ret2
      exact ⟨_, rfl, HO.out.r, HO.out.b⟩
    · have hp : 0 < n' := by omega
      have hp' : (0 : Int) < (n' : Int) := by omega
      obtain ⟨ad, e, hx⟩ := C_rd (HC.out w HR.out) 0 hp
      subst e
      rw [Addr.add_zero'] at hx
      have hx2 := (HO.out.b.cell (World.block_lt_of_cell? w _ hx)).trans hx
      have e0 : rd l' ((0 : Nat) : Int) = rd l' 0 := rfl
      rw [e0] at hx2
      clear hx e0
      have hf := HE.out
      unfold parseF at hf
      rw [if_neg (by rw [HL'.out]; exact hz)] at hf
      obtain ⟨A2, n2, c2, k1, k2, k3, k4⟩ := cut_from (some ad) n' c' l' 1 HL'.out (by omega) (by omega) hc'
      have k2' : n2 = n' - 1 := k2
      have k4' : ∀ W : World, Kd.C (Kd.int .u8) W (some ad) n' l' → Kd.C (Kd.int .u8) W A2 n2 (l'.drop 1) := k4
      have HC2 : Aside0 (∀ W : World, Kd.C (Kd.int .u8) W A0 l0.length l0 → Kd.C (Kd.int .u8) W A2 n2 (l'.drop 1)) := ⟨fun W h => k4' W (HC.out W h)⟩
      have HB2 : Aside0 (∀ x ∈ l'.drop 1, isByte x = true) := ⟨fun x hx => HB'.out x (List.mem_of_mem_drop hx)⟩
      have i1 : n2 ≤ n' - 1 := by omega
      have HSL := Aside0.mk (stepR_length (rd l' 0) (l'.drop 1))
      have hsl2 : (l'.drop 1).length = n2 := by rw [List.length_drop, HL'.out, k2']
      have HSL2 := Aside0.mk hsl2
      have HL := Aside0.mk (readers_find (rd l' 0))
      clear k2 k2' k4 k4' hsl2 hz HE
      by_cases hk : rd l' 0 = 1 ∨ rd l' 0 = 2 ∨ rd l' 0 = 3 ∨ rd l' 0 = 4
      · obtain ⟨f, i, hfi, hfn⟩ : ∃ f i, ((rd l' 0 = 1 ∧ f = 111) ∨ (rd l' 0 = 2 ∧ f = 112) ∨ (rd l' 0 = 3 ∧ f = 113) ∨ (rd l' 0 = 4 ∧ f = 114)) ∧ Instr.findNow (.int .u8) (.int .u8 (rd l' 0)) readersMap.toList 0 = some (some (i, .func (.func f) #[] #[])) := by
          rw [HL.out]
          rcases hk with h | h | h | h <;> rw [h]
          · exact ⟨111, 0, .inl ⟨rfl, rfl⟩, rfl⟩
          · exact ⟨112, 1, .inr (.inl ⟨rfl, rfl⟩), rfl⟩
          · exact ⟨113, 2, .inr (.inr (.inl ⟨rfl, rfl⟩)), rfl⟩
          · exact ⟨114, 3, .inr (.inr (.inr ⟨rfl, rfl⟩)), rfl⟩
        have lk := (map_look wr Try.underlying86 Try.underlying5 BX.out.h (rd l' 0) hfn).1
        have HFI := Aside0.mk hfi
        have HF := Aside0.mk hf
        clear hk hfi hfn hf HL
        generalize rd l' 0 = c at *
        generalize l'.drop 1 = l2 at *
        by_cases he : (stepR c l2).2.2 = 0
        · have t1 : ((stepR c l2).2.2 != 0) = false := by simp [he]
          have HF2 : Aside0 (parseF k (out ++ [(stepR c l2).1]) (stepR c l2).2.1 = (r1, r2)) := ⟨by have := HF.out; rwa [if_pos he] at this⟩
          have hby2 : Aside0 (∀ x ∈ (stepR c l2).2.1, isByte x = true) := ⟨stepR_bytes c l2 HB2.out⟩
          clear he HF
          rcases HFI.out with ⟨h1, rfl⟩ | ⟨h1, rfl⟩ | ⟨h1, rfl⟩ | ⟨h1, rfl⟩
          all_goals
            clear h1
            go_wp2_with (first
              | ((first | go_at_call 111 | go_at_call 112 | go_at_call 113 | go_at_call 114); refine (reader_any _ c HFI.out A2 n2 c2 l2 _ (Kd.C_below (HC2.out w HR.out) HO.out.b) k3 HB2.out (by omega)).mono ?_; rintro e w' ⟨A3, n3, c3, rfl, g1, g2, g3, hb⟩; have G1 := Aside0.mk g1; have G3 := Aside0.mk g3; have HO1 := Aside0.mk (HO.out.step hb); have BX1 := Aside0.mk (BX.out.step hb); clear g1 g3 hb HO BX hx2 lk; have HO := HO1; have BX := BX1; clear HO1 BX1)
              | (at_builtin; refine ((HO.out.alloc _)).val rfl _ _ (stepR c l2).1 rfl rfl rfl rfl rfl (by first | rfl | (go_simp; done) | (go_simp; rfl)) (by omega) ?_; intro v1 w1 ho hg hat; have BX1 := Aside0.mk ((BX.out.alloc _).app hg hat); have HO1 := Aside0.mk ho; clear ho hg hat HO BX; have HO := HO1; have BX := BX1; clear HO1 BX1))
            go_roundw
            case rel => exact ⟨A3, n3, c3, (stepR c l2).2.1, out ++ [(stepR c l2).1], k, rfl, g2, by have := HSL.out; have := HSL2.out; have := G1.out; omega, by have := HSL.out; have := HSL2.out; have := G1.out; omega, by have := HSL.out; have := HSL2.out; have := G1.out; rw [List.length_append, List.length_singleton]; omega, G1, ⟨fun W h => G3.out W (HC2.out W h)⟩, HF2, hby2, HO, BX⟩
            case measure => simp [lenOf]; have := HSL.out; have := HSL2.out; have := G1.out; omega
        · have t1 : ((stepR c l2).2.2 != 0) = true := by simp [he]
          have hf := HF.out
          rw [if_neg he] at hf
          simp only [Prod.mk.injEq] at hf
          obtain ⟨rfl, rfl⟩ := hf
          clear he HF
          rcases HFI.out with ⟨h1, rfl⟩ | ⟨h1, rfl⟩ | ⟨h1, rfl⟩ | ⟨h1, rfl⟩
          all_goals
            clear h1
            go_wp2_with ((first | go_at_call 111 | go_at_call 112 | go_at_call 113 | go_at_call 114); refine (reader_any _ c HFI.out A2 n2 c2 l2 _ (Kd.C_below (HC2.out w HR.out) HO.out.b) k3 HB2.out (by omega)).mono ?_; rintro e w' ⟨A3, n3, c3, rfl, g1, g2, g3, hb⟩; have G1 := Aside0.mk g1; have G3 := Aside0.mk g3; have HO1 := Aside0.mk (HO.out.step hb); have BX1 := Aside0.mk (BX.out.step hb); clear g1 g3 hb HO BX hx2 lk; have HO := HO1; have BX := BX1; clear HO1 BX1)
            go_ret2
            exact ⟨_, rfl, Kd.R_nil _ _ _ _ _, (HO.out.alloc _).b⟩
      · have hn1 : ¬ rd l' 0 = 1 := fun h => hk (.inl h)
        have hn2 : ¬ rd l' 0 = 2 := fun h => hk (.inr (.inl h))
        have hn3 : ¬ rd l' 0 = 3 := fun h => hk (.inr (.inr (.inl h)))
        have hn4 : ¬ rd l' 0 = 4 := fun h => hk (.inr (.inr (.inr h)))
        have hs : stepR (rd l' 0) (l'.drop 1) = (z39, [], 21) := by unfold stepR; rw [if_neg hn1, if_neg hn2, if_neg hn3, if_neg hn4]
        rw [hs, if_neg (by decide)] at hf
        simp only [Prod.mk.injEq] at hf
        obtain ⟨rfl, rfl⟩ := hf
        have hfn := HL.out
        rw [if_neg hn1, if_neg hn2, if_neg hn3, if_neg hn4] at hfn
        have lk := map_look_no wr Try.underlying86 Try.underlying5 BX.out.h (rd l' 0) (z := .nilFunc) (by kernel_rfl) hfn
        clear hk hn1 hn2 hn3 hn4 hs HL hfn
        generalize rd l' 0 = c at *
        go_wp2
        go_ret2
        exact ⟨_, rfl, Kd.R_nil _ _ _ _ _, HO.out.b⟩
end Go.Proofs.Ytlmcefhpnfoahaa.P
