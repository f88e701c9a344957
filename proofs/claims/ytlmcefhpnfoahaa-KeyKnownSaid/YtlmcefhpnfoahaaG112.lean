/- The readers of package key: each answers what its plain function answers, and a part of what it was handed. Condition: bytes are handed over. -/
import Derived.Test.YtlmcefhpnfoahaaK
import Derived.Test.YtlmcefhpnfoahaaSKey
namespace Go.Proofs.Ytlmcefhpnfoahaa.P
open Go.RowKit Go.Proofs.YtlmcefhpnfoahaaW.PrintWords Go.Proofs.YtlmcefhpnfoahaaW.PrintLast Go.Proofs.YtlmcefhpnfoahaaW.PrintMore
set_option linter.unusedVariables false
set_option linter.unusedSimpArgs false

/-- What a reader of a value answers: a part of what it was handed. -/
def ReadPost (A : Option Addr) (n : Nat) (l : List Int) (w : World) (r : S39 × List Int × Int) (e : Ending) (w' : World) : Prop :=
  ∃ A' n' c', e = .returned (.tuple #[.agg #[.int .u8 r.1.f0, .int .i64 r.1.f1, .string r.1.f2], .slice A' n' c', .int .i64 r.2.2]) ∧ r.2.1.length = n' ∧ n' ≤ c' ∧
    (∀ W : World, Kd.C (Kd.int .u8) W A n l → Kd.C (Kd.int .u8) W A' n' r.2.1) ∧ Below w.heap.size w w'
theorem ReadPost.none_ {A : Option Addr} {n : Nat} {l : List Int} {w w' : World} {r : S39 × List Int × Int} {k : Int} (hr : r = (z39, [], k)) (hb : Below w.heap.size w w') :
    ReadPost A n l w r (.returned (.tuple #[.agg #[.int .u8 0, .int .i64 0, .string ⟨#[]⟩], .slice none 0 0, .int .i64 k])) w' := by
  subst hr
  exact ⟨none, 0, 0, rfl, rfl, Nat.le_refl _, fun W _ => Kd.C_nil _ W, hb⟩

set_option maxHeartbeats 800000 in
theorem readTruth_read (A : Option Addr) (n c : Nat) (l : List Int) (w : World) (hr : Kd.C (Kd.int .u8) w A n l) (hc : n ≤ c) (hb : ∀ x ∈ l, isByte x = true) :
    Calls Try.prog 112 #[.slice A n c] w (ReadPost A n l w (rdTruth l)) := by
  have HR := Aside0.mk hr
  have hm := Kd.C_max hr
  have HL := Aside0.mk (Kd.C_len hr)
  have HB := Aside0.mk hb
  clear hr hb
  by_cases h0 : n = 0
  · have hz : ((n : Int) == 0) = true := by simp [h0]
    have Hf : Aside0 (rdTruth l = (z39, [], 20)) := ⟨by unfold rdTruth; rw [if_pos (by rw [HL.out]; exact h0)]⟩
    go_enter Try.func112, Try.ntmps112
    go_wp2
    refine bodyPost_ret (v := .tuple #[.agg #[.int .u8 0, .int .i64 0, .string ⟨#[]⟩], .slice none 0 0, .int .i64 20]) (by simp [results, Try.results112, go_sem]) rfl ?_
    exact ReadPost.none_ Hf.out (by repeat (first | exact Below.refl _ _ | apply below_alloc))
  · have hz : ((n : Int) == 0) = false := by simp; omega
    obtain ⟨ad, e, hx⟩ := C_rd HR.out 0 (by omega)
    cases e
    rw [Addr.add_zero'] at hx
    have hx2 := cell_new hx
    have hp : 0 < n := by omega
    have hp' : (0 : Int) < (n : Int) := by omega
    have hx0 := rd_isByte HB.out 0 (by have := HL.out; omega)
    obtain ⟨hx1, hx2'⟩ := hx0
    by_cases h1 : rd l 0 > 1
    · have Hf : Aside0 (rdTruth l = (z39, [], 21)) := ⟨by unfold rdTruth; rw [if_neg (by rw [HL.out]; exact h0), if_pos h1]⟩
      have t1 : 1 < rd l 0 := h1
      clear h0 h1
      go_enter Try.func112, Try.ntmps112
      go_wp2
      refine bodyPost_ret (v := .tuple #[.agg #[.int .u8 0, .int .i64 0, .string ⟨#[]⟩], .slice none 0 0, .int .i64 21]) (by simp [results, Try.results112, go_sem]) rfl ?_
      exact ReadPost.none_ Hf.out (by repeat (first | exact Below.refl _ _ | apply below_alloc))
    · have Hf : Aside0 (rdTruth l = (⟨1, rd l 0, ⟨#[]⟩⟩, l.drop 1, 0)) := ⟨by unfold rdTruth; rw [if_neg (by rw [HL.out]; exact h0), if_neg h1]⟩
      have t1 : ¬ 1 < rd l 0 := h1
      obtain ⟨A', n', c', k1, k2, k3, k4⟩ := cut_from (some ad) n c l 1 HL.out (by omega) (by omega) hc
      have K2 := Aside0.mk k2
      have K4 := Aside0.mk k4
      clear h0 h1 k2 k4
      have e0 : rd l ((0 : Nat) : Int) = rd l 0 := rfl
      rw [e0] at hx1 hx2' hx hx2
      clear e0
      go_enter Try.func112, Try.ntmps112
      go_wp2
      go_region
      go_wp2
      refine bodyPost_ret (v := .tuple #[.agg #[.int .u8 1, .int .i64 (rd l 0), .string ⟨#[]⟩], .slice A' n' c', .int .i64 0]) (by simp [results, Try.results112, go_sem]) rfl ?_
      rw [Hf.out]
      exact ⟨A', n', c', rfl, by have := HL.out; have := K2.out; simp; omega, k3, K4.out, by repeat (first | exact Below.refl _ _ | apply below_alloc | apply below_drew1)⟩

set_option maxHeartbeats 1600000 in
theorem readNumber_read (A : Option Addr) (n c : Nat) (l : List Int) (w : World) (hr : Kd.C (Kd.int .u8) w A n l) (hc : n ≤ c) (hb : ∀ x ∈ l, isByte x = true) :
    Calls Try.prog 113 #[.slice A n c] w (ReadPost A n l w (rdNum l)) := by
  have HR := Aside0.mk hr
  have hm := Kd.C_max hr
  have HL := Aside0.mk (Kd.C_len hr)
  have HB := Aside0.mk hb
  clear hr hb
  by_cases h0 : n < 8
  · have Hf : Aside0 (rdNum l = (z39, [], 20)) := ⟨by unfold rdNum; rw [if_pos (by rw [HL.out]; exact h0)]⟩
    go_enter Try.func113, Try.ntmps113
    go_wp2
    refine bodyPost_ret (v := .tuple #[.agg #[.int .u8 0, .int .i64 0, .string ⟨#[]⟩], .slice none 0 0, .int .i64 20]) (by simp [results, Try.results113, go_sem]) rfl ?_
    exact ReadPost.none_ Hf.out (by repeat (first | exact Below.refl _ _ | apply below_alloc))
  · have h8 : 8 ≤ n := by omega
    have Hf : Aside0 (rdNum l = (⟨2, num256 (l.take 8) - 9223372036854775808, ⟨#[]⟩⟩, l.drop 8, 0)) := ⟨by unfold rdNum; rw [if_neg (by rw [HL.out]; exact h0)]⟩
    obtain ⟨A', n', c', k1, k2, k3, k4⟩ := cut_from A n c l 8 HL.out (by omega) (by omega) hc
    obtain ⟨m, j1, j2, j3, j4⟩ := cut_to A n c l 8 HL.out (by omega) (by omega) hc
    obtain rfl : m = 8 := by simpa using j2
    have K2 := Aside0.mk k2
    have K4 := Aside0.mk k4
    have J4 := Aside0.mk (j4 w HR.out)
    clear h0 k2 k4 j2 j4
    go_enter Try.func113, Try.ntmps113
    go_wp2
    go_loop [5, 15] (fun v5 v15 => ∃ j : Nat, j ≤ 8 ∧ v15 = .int .i64 j ∧ v5 = .int .u64 (num256 (l.take j))) (fun _ v15 => 8 - (intOf v15).toNat)
    case atStart => exact ⟨0, by omega, rfl, rfl⟩
    case round =>
      obtain ⟨j, hj, rfl, rfl⟩ := hrel
      by_cases hlt : j < 8
      · obtain ⟨ad, e, hx⟩ := C_rd J4.out j hlt
        have hx' : rd (l.take (8 : Int).toNat) j = rd l j := by
          unfold rd
          simp [List.getD_eq_getElem?_getD, List.getElem?_take, hlt]
        rw [hx'] at hx
        cases e
        have hx2 := cell_new hx
        have hrb := rd_isByte HB.out j (by have := HL.out; omega)
        obtain ⟨r1, r2⟩ := hrb
        have hnb := num256_lt l HB.out j (by have := HL.out; omega)
        have hn1 : num256 (l.take j) < 72057594037927936 := by
          have : (256 : Int) ^ j ≤ 256 ^ 7 := (by decide : ∀ q : Fin 8, (256 : Int) ^ q.val ≤ 256 ^ 7) ⟨j, hlt⟩
          omega
        have HOR := Aside0.mk (or_byte _ _ hnb.1 hn1 r1 r2)
        have HS := Aside0.mk (num256_snoc l j (by have := HL.out; omega))
        obtain ⟨hn0, _⟩ := hnb
        clear hx'
        go_wp2
        go_round
        case rel => exact ⟨j + 1, by omega, by go_num, by rw [HS.out, HOR.out]⟩
        case measure => simp [intOf]; omega
      · obtain rfl : j = 8 := by omega
        have hnb := num256_lt l HB.out 8 (by have := HL.out; omega)
        have HX := Aside0.mk (xor_back _ hnb.1 (by omega))
        clear hnb
        go_wp2
        go_region
        go_wp2
        refine bodyPost_ret (v := .tuple #[.agg #[.int .u8 2, .int .i64 (num256 (l.take 8) - 9223372036854775808), .string ⟨#[]⟩], .slice A' n' c', .int .i64 0]) (by simp [results, Try.results113, go_sem]; exact HX.out) rfl ?_
        rw [Hf.out]
        exact ⟨A', n', c', rfl, by have := HL.out; have := K2.out; simp; omega, k3, K4.out, by repeat (first | exact Below.refl _ _ | apply below_alloc | apply below_drew1)⟩
end Go.Proofs.Ytlmcefhpnfoahaa.P
