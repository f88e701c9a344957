/- The row of the law RowKnown: at every input it answers true, and each argument reads behind the call as it did. No condition. -/
import Derived.WalkKit
import Derived.ProofKit
import Derived.OpenShut
import Derived.ShutString
import Derived.ChangeOld
import Derived.Below
import Derived.SizedLaws
import Derived.Test.YtlmcefhpnfoahaaRows
import Derived.Test.YtlmcefhpnfoahaaBROW3
section
namespace Go.Proofs.Ytlmcefhpnfoahaa.P
open Go.RowKit Go.Proofs.YtlmcefhpnfoahaaW.PrintWords Go.Proofs.YtlmcefhpnfoahaaW.PrintLast Go.Proofs.YtlmcefhpnfoahaaW.PrintMore
set_option linter.unusedVariables false
set_option linter.unusedSimpArgs false

def tab16 : List S58 := [⟨⟨#[4, 1, 2, 97, 98, 0]⟩, 21⟩, ⟨⟨#[4, 1, 2, 97]⟩, 20⟩, ⟨⟨#[8, 1, 2, 97, 98, 0]⟩, 21⟩, ⟨⟨#[]⟩, 20⟩, ⟨⟨#[7]⟩, 0⟩, ⟨⟨#[7, 0]⟩, 21⟩, ⟨⟨#[3, 2]⟩, 21⟩, ⟨⟨#[3, 1]⟩, 0⟩, ⟨⟨#[6, 128, 0]⟩, 21⟩, ⟨⟨#[6, 128]⟩, 20⟩, ⟨⟨#[5, 255, 255, 255, 255, 255, 255, 255, 255, 255, 1]⟩, 20⟩, ⟨⟨#[5, 0]⟩, 0⟩, ⟨⟨#[128]⟩, 21⟩, ⟨⟨#[3]⟩, 20⟩]
theorem tab16_ok : ∀ k : Nat, k < 14 → (rd_T58 tab16 k).f0.size ≤ 11 ∧ (getRow [2, 3, 1] (bytesOf (rd_T58 tab16 k).f0)).2 = (rd_T58 tab16 k).f1 ∧ ((getRow [2, 3, 1] (bytesOf (rd_T58 tab16 k).f0)).1.length = 0 ↔ (rd_T58 tab16 k).f1 ≠ 0) := by decide +kernel
def flat58 (l : List S58) : List Value := l.flatMap fun x => [.string x.f0, .int .i64 x.f1]
theorem reps58 (W : World) (l : List S58) : Reps (k58.K W) k58.sz l (flat58 l) := by
  show Reps _ 2 _ _
  induction l with
  | nil => exact Reps.none _ _
  | cons x t ih => exact Reps.c2 (k58_mk _ x) ih
theorem lit58 (W : World) (l : List S58) (cs : Array Value) (h : cs = (flat58 l).toArray) (hl : l.length ≤ 100) : Kd.C k58 (W.alloc (.cells cs 58)) (some ⟨W.heap.size, 0, none⟩) l.length l := by
  subst h
  exact lit_row k58 (heap_alloc_new W _) l (reps58 _ l) (by omega)
/-- A call of Put, of Get, whose bytes are not looked at. -/
theorem put_call (A0 : Option Addr) (c0 : Nat) (l0 : List Int) (A1 : Option Addr) (c1 : Nat) (l1 : List S39) (r1 : List Int) (r2 : Int) (w : World) (hr0 : Kd.C (Kd.int .u8) w A0 l0.length l0) (hc0 : l0.length ≤ c0) (hr1 : Kd.C k39 w A1 l1.length l1) (hc1 : l1.length ≤ c1) (h : row_Put.f l0 l1 = some (r1, r2)) :
    Calls Try.prog 46 #[.slice A0 l0.length c0, .slice A1 l1.length c1] w fun e w' => ∃ (A : Option Addr) (c : Nat), e = .returned (.tuple #[.slice A r1.length c, .int .i64 r2]) ∧ Below w.heap.size w w' ∧ Aside0 ((convert 22 9 (.slice A r1.length c)).run Try.prog w' = .ok (.string (strOfNums r1)) w') :=
  (row_Put.calls A0 c0 l0 A1 c1 l1 r1 r2 w hr0 hc0 hr1 hc1 h).mono fun e w' ⟨v, h1, h2, h3⟩ => by
    obtain ⟨A, c, hv, _, hR⟩ := Kd.R_reads h2
    subst hv
    exact ⟨A, c, h1, h3, ⟨Kd.C_string Try.underlying22 Try.underlying5 Try.underlying9 hR⟩⟩
theorem get_call (A0 : Option Addr) (c0 : Nat) (l0 : List Int) (A1 : Option Addr) (c1 : Nat) (l1 : List Int) (r1 : List S39) (r2 : Int) (w : World) (hr0 : Kd.C (Kd.int .u8) w A0 l0.length l0) (hc0 : l0.length ≤ c0) (hr1 : Kd.C (Kd.int .u8) w A1 l1.length l1) (hc1 : l1.length ≤ c1) (h : row_Get.f l0 l1 = some (r1, r2)) :
    Calls Try.prog 49 #[.slice A0 l0.length c0, .slice A1 l1.length c1] w fun e w' => ∃ (A : Option Addr) (c : Nat), e = .returned (.tuple #[.slice A r1.length c, .int .i64 r2]) ∧ Below w.heap.size w w' :=
  (row_Get.calls A0 c0 l0 A1 c1 l1 r1 r2 w hr0 hc0 hr1 hc1 h).mono fun e w' ⟨v, h1, h2, h3⟩ => by
    obtain ⟨A, c, hv, _, _⟩ := Kd.R_reads h2
    subst hv
    exact ⟨A, c, h1, h3⟩
/-- Get at a string of the table. -/
theorem get_conv (s : ByteArray) (hs : s.size ≤ 11) (W : World) (A : Option Addr) (hA : Kd.C (Kd.int .u8) W A 3 [2, 3, 1]) : Calls Try.prog 49 #[.slice A 3 3, .slice (some ⟨W.heap.size, 0, none⟩) s.size (grownCap W s.size 0 5)] (Lib.bytesWorld W 5 s) fun e W2 =>
    ∃ A c, e = .returned (.tuple #[.slice A (getRow [2, 3, 1] (bytesOf s)).1.length c, .int .i64 (getRow [2, 3, 1] (bytesOf s)).2]) ∧ Below W.heap.size W W2 := by
  have hb := bytes_below (Below.refl W.heap.size W) (Nat.le_refl _) 5 s
  obtain ⟨q, hq⟩ : ∃ q, q = getRow [2, 3, 1] (bytesOf s) := ⟨_, rfl⟩
  have hg := rowGet_f [2, 3, 1] (bytesOf s) (by decide) (by rw [bytesOf_length]; omega) (bytesOf_isByte s)
  rw [← hq] at hg ⊢
  have h1 := get_call A 3 [2, 3, 1] _ (grownCap W s.size 0 5) (bytesOf s) q.1 q.2 _ (Kd.C_below hA hb) (Nat.le_refl _) (conv_bytes_row W s (by omega)) (by rw [bytesOf_length]; exact grownCap_ge _ _ _ _) hg
  rw [bytesOf_length] at h1
  exact h1.mono fun e W2 ⟨A, c, he, hd⟩ => ⟨A, c, he, below_then hb (by rw [Lib.bytesWorld_size]; omega) hd⟩
theorem p1 : row_Put.f [2] [⟨1, 0, ⟨#[]⟩⟩] = some ([], 1) := by decide +kernel
theorem p2 : row_Put.f [0] [z39] = some ([], 1) := by decide +kernel
theorem p3 : row_Put.f [] [] = some ([], 0) := by decide +kernel
theorem p4 : row_Put.f [2, 3, 1] [] = some ([], 1) := by decide +kernel
theorem p8 : row_Put.f [1, 1, 1, 1, 1, 1, 1, 1, 1] [z39, z39, z39, z39, z39, z39, z39, z39, z39] = some ([255, 1], 0) := by decide +kernel
theorem g5 : row_Get.f [4] [0] = some ([], 1) := by kernel_rfl
theorem g6 : row_Get.f [] [] = some ([], 0) := by kernel_rfl
theorem g7 : row_Get.f [] [0] = some ([], 21) := by kernel_rfl
set_option maxRecDepth 100000 in
set_option maxHeartbeats 1600000 in
theorem walk_RowKnown (w : World) : Calls Try.prog 16 #[] w fun e w' => e = .returned (.bool true) ∧ Below w.heap.size w w' := by
  have HT0 : Aside0 (Kd.C (Kd.int .u8) (w.alloc (.cells #[.int .u8 2, .int .u8 3, .int .u8 1] 5)) (some ⟨w.heap.size, 0, none⟩) 3 [2, 3, 1]) := ⟨lit_bytes w [2, 3, 1] _ rfl (by decide)⟩
  have HB0 : Aside0 (Below w.heap.size w (w.alloc (.cells #[.int .u8 2, .int .u8 3, .int .u8 1] 5))) := ⟨below_alloc (Below.refl _ _) _⟩
  have hz0 : Aside0 ((w.alloc (.cells #[.int .u8 2, .int .u8 3, .int .u8 1] 5)).heap.size = w.heap.size + 1) := ⟨by simp⟩
  go_enter Try.func16, Try.ntmps16
  go_wp2_with fail
  obtain ⟨w0, hw0⟩ : ∃ W, W = w.alloc (.cells #[.int .u8 2, .int .u8 3, .int .u8 1] 5) := ⟨_, rfl⟩
  rw [← hw0] at HT0 HB0 hz0 ⊢
  rw [← hz0.out]
  have HK : Aside0 (Kd.C k58 (w0.alloc (.cells #[.string ⟨#[4, 1, 2, 97, 98, 0]⟩, .int .i64 21, .string ⟨#[4, 1, 2, 97]⟩, .int .i64 20, .string ⟨#[8, 1, 2, 97, 98, 0]⟩, .int .i64 21, .string ⟨#[]⟩, .int .i64 20, .string ⟨#[7]⟩, .int .i64 0, .string ⟨#[7, 0]⟩, .int .i64 21, .string ⟨#[3, 2]⟩, .int .i64 21, .string ⟨#[3, 1]⟩, .int .i64 0, .string ⟨#[6, 128, 0]⟩, .int .i64 21, .string ⟨#[6, 128]⟩, .int .i64 20, .string ⟨#[5, 255, 255, 255, 255, 255, 255, 255, 255, 255, 1]⟩, .int .i64 20, .string ⟨#[5, 0]⟩, .int .i64 0, .string ⟨#[128]⟩, .int .i64 21, .string ⟨#[3]⟩, .int .i64 20] 58)) (some ⟨w0.heap.size, 0, none⟩) 14 tab16) := ⟨lit58 w0 tab16 _ rfl (by decide)⟩
  have HT1 := Aside0.mk (Kd.C_alloc HT0.out (.cells #[.string ⟨#[4, 1, 2, 97, 98, 0]⟩, .int .i64 21, .string ⟨#[4, 1, 2, 97]⟩, .int .i64 20, .string ⟨#[8, 1, 2, 97, 98, 0]⟩, .int .i64 21, .string ⟨#[]⟩, .int .i64 20, .string ⟨#[7]⟩, .int .i64 0, .string ⟨#[7, 0]⟩, .int .i64 21, .string ⟨#[3, 2]⟩, .int .i64 21, .string ⟨#[3, 1]⟩, .int .i64 0, .string ⟨#[6, 128, 0]⟩, .int .i64 21, .string ⟨#[6, 128]⟩, .int .i64 20, .string ⟨#[5, 255, 255, 255, 255, 255, 255, 255, 255, 255, 1]⟩, .int .i64 20, .string ⟨#[5, 0]⟩, .int .i64 0, .string ⟨#[128]⟩, .int .i64 21, .string ⟨#[3]⟩, .int .i64 20] 58))
  obtain ⟨ad, had⟩ : ∃ ad : Addr, ad = ⟨w0.heap.size, 0, none⟩ := ⟨_, rfl⟩
  obtain ⟨at_, hat⟩ : ∃ ad : Addr, ad = ⟨w.heap.size, 0, none⟩ := ⟨_, rfl⟩
  rw [← had] at HK ⊢
  rw [← hat] at HT1 ⊢
  clear had hat HT0 hz0
  go_loopw [3, 4, 5] (fun v3 v4 v5 W => ∃ (k : Nat), k ≤ 14 ∧ v3 = .int .i64 k ∧ Aside0 (Kd.C k58 W (some ad) 14 tab16) ∧ Aside0 (Kd.C (Kd.int .u8) W (some at_) 3 [2, 3, 1]) ∧ Aside0 (Below w.heap.size w W)) (fun v3 _ _ _ => 14 - (intOf v3).toNat)
  case atStart => exact ⟨0, by omega, rfl, HK, HT1, ⟨HB0.out.alloc HB0.out.size _⟩⟩
  case round =>
    clear HK HT1 HB0
    obtain ⟨k, hk, rfl, HC, HT, HB⟩ := hrel
    by_cases hlt : k < 14
    · obtain ⟨ad', e, b0, b1⟩ := at_T58 HC.out k (by omega) (by omega)
      cases e
      rw [Int.toNat_natCast] at b0 b1
      obtain ⟨hs, hp, hM⟩ := tab16_ok k hlt
      obtain ⟨⟨s, E⟩, hx⟩ : ∃ x, x = rd_T58 tab16 k := ⟨_, rfl⟩
      rw [← hx] at b0 b1 hs hp hM
      clear hx
      dsimp only at b0 b1 hs hp hM
      have MG := Aside0.mk (get_conv s hs wr (some at_) HT.out)
      rw [hp] at MG
      obtain ⟨n, hn⟩ : ∃ n, n = (getRow [2, 3, 1] (bytesOf s)).1.length := ⟨_, rfl⟩
      rw [← hn] at MG hM
      have kc := conv_bytes s
      clear hp hn
      by_cases hE : E = 0
      · subst hE
        have hn0 : ¬ n = 0 := fun h => (hM.mp h) rfl
        have hn1 : (0 : Int) < (n : Int) := by omega
        have hn2 : 0 < n := by omega
        clear hM hn0
        go_wp2_with (go_at_call 49; refine MG.out.mono ?_; rintro e w1 ⟨Am, cm, rfl, hb⟩; have HC1 := Aside0.mk (Kd.C_below HC.out hb); have HT1 := Aside0.mk (Kd.C_below HT.out hb); have HB1 := Aside0.mk (below_then HB.out HB.out.size hb); have b2 := (hb.cell (World.block_lt_of_cell? _ _ b1)).trans b1; clear hb)
        go_roundw
        case rel => exact ⟨k + 1, by omega, by go_num, HC1, HT1, HB1⟩
        case measure => simp [intOf]; omega
      · obtain rfl : n = 0 := hM.mpr hE
        have q0 : (E == 0) = false := beq_eq_false_iff_ne.mpr hE
        have q1 : (E != 0) = true := by simp [bne, q0]
        clear hM
        go_wp2_with (go_at_call 49; refine MG.out.mono ?_; rintro e w1 ⟨Am, cm, rfl, hb⟩; have HC1 := Aside0.mk (Kd.C_below HC.out hb); have HT1 := Aside0.mk (Kd.C_below HT.out hb); have HB1 := Aside0.mk (below_then HB.out HB.out.size hb); have b2 := (hb.cell (World.block_lt_of_cell? _ _ b1)).trans b1; clear hb)
        go_roundw
        case rel => exact ⟨k + 1, by omega, by go_num, HC1, HT1, HB1⟩
        case measure => simp [intOf]; omega
    · obtain rfl : k = 14 := by omega
      have BA := Aside0.mk ((HB.out.alloc HB.out.size (.cells #[.int .u8 2] 5)).alloc (by have := HB.out.size; simp; omega) (.cells #[.int .u8 1, .int .i64 0, .string ⟨#[]⟩] 39))
      have sA := Aside0.mk (show (wr.alloc (.cells #[.int .u8 2] 5)).heap.size = wr.heap.size + 1 by simp)
      have q1 := lit_vals (wr.alloc (.cells #[.int .u8 2] 5)) [⟨1, 0, ⟨#[]⟩⟩] _ rfl (by decide)
      rw [sA.out] at q1
      have P1 := Aside0.mk (put_call _ 1 [2] _ 1 [⟨1, 0, ⟨#[]⟩⟩] [] 1 _ (Kd.C_alloc (lit_bytes wr [2] _ rfl (by decide)) _) (Nat.le_refl _) q1 (Nat.le_refl _) p1)
      clear q1
      go_wp2_with fail
      refine P1.out.mono ?_
      rintro e w1 ⟨A1, c1, rfl, hb1, _⟩
      have B1 := Aside0.mk (below_then BA.out BA.out.size hb1)
      have T1 := Aside0.mk (Kd.C_below (Kd.C_alloc (Kd.C_alloc HT.out (.cells #[.int .u8 2] 5)) (.cells #[.int .u8 1, .int .i64 0, .string ⟨#[]⟩] 39)) hb1)
      clear hb1 P1 BA sA
      have BA := Aside0.mk ((B1.out.alloc B1.out.size (.cells #[.int .u8 0] 5)).alloc (by have := B1.out.size; simp; omega) (.cells #[.int .u8 0, .int .i64 0, .string ⟨#[]⟩] 39))
      have sA := Aside0.mk (show (w1.alloc (.cells #[.int .u8 0] 5)).heap.size = w1.heap.size + 1 by simp)
      have q1 := lit_vals (w1.alloc (.cells #[.int .u8 0] 5)) [z39] _ rfl (by decide)
      rw [sA.out] at q1
      have P1 := Aside0.mk (put_call _ 1 [0] _ 1 [z39] [] 1 _ (Kd.C_alloc (lit_bytes w1 [0] _ rfl (by decide)) _) (Nat.le_refl _) q1 (Nat.le_refl _) p2)
      clear q1
      go_wp2_with fail
      refine P1.out.mono ?_
      rintro e w2 ⟨A2, c2, rfl, hb1, _⟩
      have B2 := Aside0.mk (below_then BA.out BA.out.size hb1)
      have T2 := Aside0.mk (Kd.C_below (Kd.C_alloc (Kd.C_alloc T1.out (.cells #[.int .u8 0] 5)) (.cells #[.int .u8 0, .int .i64 0, .string ⟨#[]⟩] 39)) hb1)
      clear hb1 P1 BA sA
      have P1 := Aside0.mk (put_call none 0 [] none 0 [] [] 0 w2 (Kd.C_nil _ _) (Nat.le_refl _) (Kd.C_nil _ _) (Nat.le_refl _) p3)
      go_wp2_with fail
      refine P1.out.mono ?_
      rintro e w3 ⟨A3, c3, rfl, hb1, _⟩
      have B3 := Aside0.mk (below_then B2.out B2.out.size hb1)
      have T3 := Aside0.mk (Kd.C_below T2.out hb1)
      clear hb1 P1
      have P1 := Aside0.mk (put_call (some at_) 3 [2, 3, 1] none 0 [] [] 1 w3 T3.out (Nat.le_refl _) (Kd.C_nil _ _) (Nat.le_refl _) p4)
      go_wp2_with fail
      refine P1.out.mono ?_
      rintro e w4 ⟨A4, c4, rfl, hb1, _⟩
      have B4 := Aside0.mk (below_then B3.out B3.out.size hb1)
      clear hb1 P1
      have BA := Aside0.mk ((B4.out.alloc B4.out.size (.cells #[.int .u8 4] 5)).alloc (by have := B4.out.size; simp; omega) (.cells #[.int .u8 0] 5))
      have sA := Aside0.mk (show (w4.alloc (.cells #[.int .u8 4] 5)).heap.size = w4.heap.size + 1 by simp)
      have q1 := lit_bytes (w4.alloc (.cells #[.int .u8 4] 5)) [0] _ rfl (by decide)
      rw [sA.out] at q1
      have P1 := Aside0.mk (get_call _ 1 [4] _ 1 [0] [] 1 _ (Kd.C_alloc (lit_bytes w4 [4] _ rfl (by decide)) _) (Nat.le_refl _) q1 (Nat.le_refl _) g5)
      clear q1
      go_wp2_with fail
      refine P1.out.mono ?_
      rintro e w5 ⟨A5, c5, rfl, hb1⟩
      have B5 := Aside0.mk (below_then BA.out BA.out.size hb1)
      clear hb1 P1 BA sA
      have P1 := Aside0.mk (get_call none 0 [] none 0 [] [] 0 w5 (Kd.C_nil _ _) (Nat.le_refl _) (Kd.C_nil _ _) (Nat.le_refl _) g6)
      go_wp2_with fail
      refine P1.out.mono ?_
      rintro e w6 ⟨A6, c6, rfl, hb1⟩
      have B6 := Aside0.mk (below_then B5.out B5.out.size hb1)
      clear hb1 P1
      have BA := Aside0.mk (B6.out.alloc B6.out.size (.cells #[.int .u8 0] 5))
      have P1 := Aside0.mk (get_call none 0 [] _ 1 [0] [] 21 _ (Kd.C_nil _ _) (Nat.le_refl _) (lit_bytes w6 [0] _ rfl (by decide)) (Nat.le_refl _) g7)
      go_wp2_with fail
      refine P1.out.mono ?_
      rintro e w7 ⟨A7, c7, rfl, hb1⟩
      have B7 := Aside0.mk (below_then BA.out BA.out.size hb1)
      clear hb1 P1 BA
      have BA := Aside0.mk (B7.out.alloc B7.out.size (.cells #[.int .u8 1, .int .u8 1, .int .u8 1, .int .u8 1, .int .u8 1, .int .u8 1, .int .u8 1, .int .u8 1, .int .u8 1] 5))
      have N9 := Aside0.mk (lit_bytes w7 [1, 1, 1, 1, 1, 1, 1, 1, 1] _ rfl (by decide))
      go_wp2_with (first
        | ((with_reducible refine gate_dst (N := 112) rfl ?_); refine Kd.R_make k39 w.heap.size 39 rfl (N := 112) rfl 23 _ _ rfl (9 : Int) rfl rfl Try.underlying23 (.agg #[(.int .u8 0), (.int .i64 0), (.string ⟨#[]⟩)]) 32 info39 rfl (by decide) (by omega) z39 (ok := fun _ => True) (okp := fun _ => True) (k39_mkM _ _ _ z39) (fun _ hk => hk) trivial (by omega) (by omega) BA.out BA.out.size ?_; intro v8 w8 ho hb hg hnew; have HO := Aside0.mk (Own.mk ho hb (Nat.le_trans BA.out.size hg.size)); have N8 := Aside0.mk (Kd.C_below N9.out ((Below.refl _ _).grown hg (Nat.le_refl _) (fun k e => by cases e))); clear ho hb hg hnew))
      obtain ⟨Am, nm, cm, em, hnm, hcm, hCm⟩ := HO.out.sl'
      subst em
      obtain rfl : nm = 9 := hnm.out
      have P1 := Aside0.mk (put_call (some ⟨w7.heap.size, 0, none⟩) 9 [1, 1, 1, 1, 1, 1, 1, 1, 1] Am cm [z39, z39, z39, z39, z39, z39, z39, z39, z39] [255, 1] 0 w8 N8.out (Nat.le_refl _) hCm.out hcm p8)
      have B8 := Aside0.mk HO.out.b
      clear hnm hCm HO
      refine P1.out.mono ?_
      rintro e w9 ⟨A9, c9, rfl, hb1, hst⟩
      have B9 := Aside0.mk (below_then B8.out B8.out.size hb1)
      have kst := hst.out
      change (convert 22 9 (.slice A9 2 c9)).run Try.prog w9 = .ok (.string ⟨#[255, 1]⟩) w9 at kst
      clear hb1 P1 hst
      go_wp2_with (go_at_call 48; refine (tidelinelaw04_puts.calls true _ rfl).mono ?_; rintro e w10 ⟨rfl, hb2⟩; have B10 := Aside0.mk (below_then B9.out B9.out.size hb2); clear hb2)
      go_ret
      exact ⟨rfl, B10.out⟩
end Go.Proofs.Ytlmcefhpnfoahaa.P
end

section
namespace Go.Proofs.Ytlmcefhpnfoahaa.rowKnown
open Go.ChangeShapes Go.WideShapes Go.ChangeAt Go.RowKit Go.Proofs.Ytlmcefhpnfoahaa.P
open Go.ChangeMaps (open_string shut_string)
set_option linter.unusedVariables false
theorem own : ownKnob Try.prog.godebug = none := by kernel_rfl
theorem laidOut : laidOutB Try.prog = true := by kernel_rfl
set_option maxRecDepth 100000 in
theorem lifted (os : Os) (started : os.Started) (H : Type) (enc : TypeId × Value → H) :
    ReturnsInHanded {} Try.checked os 16 .any (Rows.rowKnownSpec.pre6 enc Try.prog Try.f16 Rows.rowKnownRow.domain false) (Rows.rowKnownSpec.post enc Try.prog Try.f16 false true false false) := by
  refine returnsInHanded_of_change_sized (C := Try.checked) own started (by kernel_rfl) Try.func16
    (ChangeSpec.witness6 (enc := enc) (C := Try.checked) false ⟨#[], #[], []⟩ 8 (by kernel_rfl) (by kernel_rfl) (by kernel_rfl) (by kernel_rfl)) ?_
  intro W base args ds gs before hval0 hW hcnd hsz0 _
  have hval : ∀ (j : Nat) t v, Try.f16.params[j]? = some t → args[j]? = some v → Value.okWide Try.prog W .any base t v := hval0
  have hW' := hW
  obtain ⟨p, q, hA0, hV, rfl, hfz, hnd⟩ := hW
  have hA : DataW.TrodAll enc Try.prog W 0 (fun _ => true) true Try.f16.params.toList args.toList ds p := hA0
  rw [Try.params16] at hA hval
  obtain ⟨rfl, rfl, rfl⟩ := trodAll_none hA
  obtain ⟨rfl, rfl⟩ := trodVars_none hV
  clear hA0 hval0 hsz0
  refine (walk_RowKnown  W ).mono fun e W' ⟨he, bel⟩ => ?_
  subst he
  exact ⟨_, rfl, _, _, _, [], _, [], hW', trodAll_mk1 (shut_bool Try.underlying4 _), trodAll_mk0, rfl, bel.frame _, fun h => by cases h⟩
theorem k_wf : Rows.rowKnownRow.wf (OpenSpec.ofChange Rows.rowKnownSpec) = true := by kernel_rfl
theorem k_params : Try.f16.params.all (Try.prog.readableRec ·) = true := by kernel_rfl
theorem k_tie : namedTie Try.prog Rows.rowKnownRow.named Rows.rowKnownSpec.vars = true := by kernel_rfl
theorem k_inPlace : (Rows.rowKnownRow.inPlace == Try.prog.inPlace 16) = true := by kernel_rfl
theorem k_unfollowed : (Rows.rowKnownRow.unfollowed == Try.prog.unfollowed 16) = true := by kernel_rfl
theorem k_recurses : (Rows.rowKnownRow.recurses == Try.prog.recurses 16) = true := by kernel_rfl
theorem k_named : (Rows.rowKnownRow.named == Try.prog.varsNamed 16) = true := by kernel_rfl
theorem k_maps : (Rows.rowKnownRow.maps == (Try.f16.params.toList ++ Rows.rowKnownSpec.plain.varTypes Try.prog).any (Try.prog.mapsRec ·)) = true := by kernel_rfl
theorem k_ifaces : (Rows.rowKnownRow.ifaces == (Try.f16.params.toList ++ Rows.rowKnownSpec.plain.varTypes Try.prog).any (Try.prog.ifacesRec ·)) = true := by kernel_rfl
theorem k_mapsOut : (Rows.rowKnownRow.mapsOut == Try.prog.mapsAmong Try.f16.resultTypes.toList) = true := by kernel_rfl
theorem k_loops : (Rows.rowKnownRow.loops == (Try.f16.params.toList ++ Rows.rowKnownSpec.plain.varTypes Try.prog).any (Try.prog.loopsFrom ·)) = true := by kernel_rfl
theorem k_wideKeys : (Rows.rowKnownRow.wideKeys == ((Try.f16.params.toList ++ Rows.rowKnownSpec.plain.varTypes Try.prog) ++ Try.f16.resultTypes.toList).any (Try.prog.wideKeysFrom ·)) = true := by kernel_rfl
theorem k_results : Try.f16.resultTypes.all (fun t => Try.prog.readableRec t && decide (t < Try.prog.types.size)) = true := by kernel_rfl
theorem k_ifacesOut : (Rows.rowKnownRow.ifacesOut == Try.f16.resultTypes.toList.any (Try.prog.ifacesRec ·)) = true := by kernel_rfl
theorem k_loopsOut : (Rows.rowKnownRow.loopsOut == Try.f16.resultTypes.toList.any (Try.prog.loopsFrom ·)) = true := by kernel_rfl
theorem k_veiled : (Rows.rowKnownRow.veiled == ((Try.f16.params.toList ++ Rows.rowKnownSpec.plain.varTypes Try.prog) ++ Try.f16.resultTypes.toList).any (Try.prog.veiledRec ·)) = true := by kernel_rfl
theorem k_fits : Rows.rowKnownRow.veiledFits Try.prog Try.f16.params.toList ((Try.f16.params.toList ++ Rows.rowKnownSpec.plain.varTypes Try.prog) ++ Try.f16.resultTypes.toList) = true := by kernel_rfl
theorem k_kinds : (Rows.rowKnownRow.kinds == (if Rows.rowKnownRow.domain.isEmpty then [] else Try.f16.params.toList.map fun t => match Try.prog.underlying t with | some (.int k) => some k | _ => none)) = true := by kernel_rfl
theorem k_pins : (Rows.rowKnownRow.pinned == Rows.rowKnownRow.pinnedBy) = true := by kernel_rfl
theorem k_stops : (Rows.rowKnownRow.stops == []) = true := by kernel_rfl
theorem k_knobs : (Rows.rowKnownRow.knobs == []) = true := by kernel_rfl
theorem k_vars : Rows.rowKnownSpec.vars.all (Try.prog.varReadable ·) = true := by kernel_rfl
theorem k_plain : Rows.rowKnownRow.plainKeys = true := by kernel_rfl
theorem k_short : Rows.rowKnownRow.shortTexts.isNone = true := by kernel_rfl
theorem k_lift : Rows.rowKnownRow.lifted = false := by kernel_rfl
theorem k_make : Rows.rowKnownRow.make = .cut := by kernel_rfl
theorem k_func : Try.prog.funcNamed Rows.rowKnownRow.func = some 16 := by kernel_rfl
theorem k_plain2 : (Rows.rowKnownRow.plainKeys == Try.prog.plainKeys) = (Rows.rowKnownRow.plainKeys == true) := by rw [fact_plainKeys]
theorem k_lift2 : (Rows.rowKnownRow.lifted == Try.prog.liftsFinal) = (Rows.rowKnownRow.lifted == false) := by rw [fact_liftsFinal]
theorem k_make2 : (Try.prog.make == some Rows.rowKnownRow.make) = true := by rw [fact_make, k_make]; rfl
set_option maxRecDepth 100000 in
theorem closed : joinedFacts Try.prog 16 Try.f16 Rows.rowKnownSpec Rows.rowKnownRow = true :=
  joined_of Try.prog 16 Try.f16 Rows.rowKnownSpec Rows.rowKnownRow k_wf fact_laidOut fact_mapsRowed k_params k_tie k_stops fact_stops k_knobs fact_stopKnobs k_inPlace k_unfollowed k_recurses k_named k_maps k_ifaces k_mapsOut k_loops k_wideKeys k_vars k_results k_ifacesOut k_loopsOut k_plain2 k_plain k_short fact_stopsHeard fact_mayEnter k_lift2 k_lift k_make2 k_kinds k_pins k_veiled k_fits
theorem over : Rows.rowKnownRow.holds Try.pinned (OpenSpec.ofChange Rows.rowKnownSpec) :=
  OpenClaim.holds_of_wide 16 Try.f16 rfl rfl rfl rfl rfl rfl rfl ⟨rfl, rfl, rfl, rfl, rfl⟩ rfl rfl rfl rfl rfl k_func Try.func16 closed
    (of_decide_eq_true (by kernel_rfl)) (by unfold Func.isWrapper; first | (rw [if_pos (by decide +kernel)]; kernel_rfl) | (rw [if_neg (by decide +kernel)]; exact ⟨rfl, rfl⟩))
    (fun os started H enc _ => lifted os started H enc)
theorem proved : Rows.RowKnownSaid := over
#print axioms proved
end Go.Proofs.Ytlmcefhpnfoahaa.rowKnown
namespace Go.Proofs.Ytlmcefhpnfoahaa
/-- The row, under a short name, for the claim. -/
theorem rowKnown_holds : Rows.RowKnownSaid := rowKnown.proved
end Go.Proofs.Ytlmcefhpnfoahaa
end
