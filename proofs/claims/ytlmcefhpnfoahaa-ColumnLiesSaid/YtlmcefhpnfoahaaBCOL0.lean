/- Part 0 of what the laws of this chapter stand on: texts of this session, gathered. Condition: none beside those that each theorem states. -/
import Derived.Below
import Derived.Deep.Draws
import Derived.Deep.AppendLies
import Derived.Maps.AppendAt
import Derived.OwnWalk
import Derived.Laws.BytesArg
import Derived.Laws.MakeOwn
import Derived.Laws.OwnMore
import Derived.Deep.OwnRows
import Derived.Tactics
import Derived.Lib.ConvBytes
import Derived.Laws.Slices
import Derived.WalkKit
import Derived.KernelRfl
import Derived.RowKit3
import Derived.Deep.LoopGhost
import Derived.Deep.QuietTactic
import Derived.BigQuiet
import Derived.WideLaws
import Derived.Deep.DeepCutAuto
import Derived.Deep.CutBlock
import Derived.Deep.RegionHeld3
import Derived.Laws.Rows
import Derived.Lib.AppendStr
import Derived.ArgAppend
import Derived.Laws.IdiomCopy
import Derived.OrdersHeld
import Derived.Laws.BitsLemmas
import Derived.RowKit
import Derived.Test.YtlmcefhpnfoahaaProg
import Derived.Test.YtlmcefhpnfoahaaYCOLWords
import Derived.Test.YtlmcefhpnfoahaaYCOLLast
import Derived.Test.YtlmcefhpnfoahaaYCOLTab
import Derived.Test.YtlmcefhpnfoahaaYCOLFour
import Derived.Test.YtlmcefhpnfoahaaYCOLQPut
import Derived.Test.YtlmcefhpnfoahaaYCOLApart
import Derived.Test.YtlmcefhpnfoahaaYCOLArr
import Derived.Test.YtlmcefhpnfoahaaYCOLZeros
import Derived.Test.YtlmcefhpnfoahaaYCOLFoot
import Derived.Test.YtlmcefhpnfoahaaYCOLKept
import Derived.Test.YtlmcefhpnfoahaaYCOLShare
import Derived.Test.YtlmcefhpnfoahaaYCOLN
import Derived.Test.YtlmcefhpnfoahaaYCOLFootNe
import Derived.Test.YtlmcefhpnfoahaaYCOLAt
import Derived.Test.YtlmcefhpnfoahaaYCOLEqStruct
import Derived.Test.YtlmcefhpnfoahaaYCOLRepsOne
import Derived.Test.YtlmcefhpnfoahaaYCOLInv
import Derived.Test.YtlmcefhpnfoahaaYCOLInvWords
import Derived.Test.YtlmcefhpnfoahaaYCOLGuard
import Derived.Test.YtlmcefhpnfoahaaYCOLNEv
import Derived.Test.YtlmcefhpnfoahaaYCOLMore
import Derived.Laws.BitsAllLaws
import Derived.IntWalk
import Derived.ChangeMaps5
import Derived.Carry
import Derived.Deep.Slices
import Derived.Deep.Strs
import Derived.ProofKit
import Derived.ChangeOld
import Derived.Lib.SlBytesConst
section
namespace Go.Proofs.Ytlmcefhpnfoahaa.P
open Go.RowKit Go.Proofs.YtlmcefhpnfoahaaW.PrintWords Go.Proofs.YtlmcefhpnfoahaaW.PrintLast Go.Proofs.YtlmcefhpnfoahaaW.PrintMore
attribute [local go_sem] max2_int min2_int max_two min_two max_three min_three max_four min_four   -- for this text's walks alone
set_option linter.unusedVariables false
set_option linter.unusedSimpArgs false



def errW : Option Int → Value
  | none => .nilIface
  | some c => .iface 0 (.int .i64 c)
theorem errW_none : errW none = .nilIface := rfl
theorem errW_some (c : Int) : errW (some c) = .iface 0 (.int .i64 c) := rfl

theorem info2 : (Try.prog.info? 2).map (fun i => (i.zero, i.size, i.bytes)) = some (some (.int .i64 0), 1, 8) := by kernel_rfl
theorem info4 : (Try.prog.info? 4).map (fun i => (i.zero, i.size, i.bytes)) = some (some (.bool false), 1, 1) := by kernel_rfl
theorem info5 : (Try.prog.info? 5).map (fun i => (i.zero, i.size, i.bytes)) = some (some (.int .u8 0), 1, 1) := by kernel_rfl
theorem info9 : (Try.prog.info? 9).map (fun i => (i.zero, i.size, i.bytes)) = some (some (.string ⟨#[]⟩), 1, 16) := by kernel_rfl
theorem info39 : (Try.prog.info? 39).map (fun i => (i.zero, i.size, i.bytes)) = some (some (.agg #[(.int .u8 0), (.int .i64 0), (.string ⟨#[]⟩)]), 3, 32) := by kernel_rfl
structure S39 where
  f0 : Int
  f1 : Int
  f2 : ByteArray
def z39 : S39 := ⟨(0 : Int), (0 : Int), (⟨#[]⟩ : ByteArray)⟩
def k39 : Kd S39 := Kd.iso (Kd.pair (Kd.int .u8) (Kd.pair (Kd.int .i64) Kd.string)) (fun x : S39 => (x.f0, x.f1, x.f2))
theorem k39_open {w : World} {x : S39} {cs : List Value} (h : k39.K w x cs) : cs = [.int .u8 x.f0, .int .i64 x.f1, .string x.f2] := by
  obtain ⟨_, _, rfl, rfl, ⟨_, _, rfl, rfl, rfl⟩⟩ := h
  exact rfl
theorem k39_openM {w : World} {base : Nat} {ok : Nat → Prop} {x : S39} {cs : List Value} (h : k39.M w base ok x cs) : cs = [.int .u8 x.f0, .int .i64 x.f1, .string x.f2] := by
  obtain ⟨_, _, rfl, rfl, ⟨_, _, rfl, rfl, rfl⟩⟩ := h
  exact rfl
theorem k39_mk (w : World) (x : S39)  : k39.K w x [.int .u8 x.f0, .int .i64 x.f1, .string x.f2] := ⟨[.int .u8 x.f0], [.int .i64 x.f1, .string x.f2], rfl, rfl, ⟨[.int .i64 x.f1], [.string x.f2], rfl, rfl, rfl⟩⟩
theorem k39_mkM (w : World) (base : Nat) (ok : Nat → Prop) (x : S39)  : k39.M w base ok x [.int .u8 x.f0, .int .i64 x.f1, .string x.f2] := ⟨[.int .u8 x.f0], [.int .i64 x.f1, .string x.f2], rfl, rfl, ⟨[.int .i64 x.f1], [.string x.f2], rfl, rfl, rfl⟩⟩
def rd_T39 (xs : List S39) (i : Int) : S39 := xs.getD i.toNat z39
theorem at_T39 {w : World} {A : Option Addr} {n : Nat} {xs : List S39} (h : Kd.C k39 w A n xs) (i : Int) (h0 : 0 ≤ i) (h1 : i < n) : ∃ ad , A = some ad ∧ w.cell? (ad.add (i.toNat * 3)) = some (.int .u8 (rd_T39 xs i).f0) ∧ w.cell? ⟨(ad.add (i.toNat * 3)).block, (ad.add (i.toNat * 3)).off + 1, none⟩ = some (.int .i64 (rd_T39 xs i).f1) ∧ w.cell? ⟨(ad.add (i.toNat * 3)).block, (ad.add (i.toNat * 3)).off + 2, none⟩ = some (.string (rd_T39 xs i).f2) := by
  obtain ⟨ad, c, e, _, hK, hc0⟩ := Kd.C_get h z39 i h0 h1
  have hc : ∀ j u, c[j]? = some u → w.cell? (ad.add (i.toNat * 3 + j)) = some u := hc0
  obtain rfl := k39_open hK
  exact ⟨ad, e, hc 0 _ rfl, by rw [← add_field _ _ 1 (by omega)]; exact hc 1 _ rfl, by rw [← add_field _ _ 2 (by omega)]; exact hc 2 _ rfl⟩

structure S36 where
  f0 : ByteArray
  f1 : Int
def rd_L6 (xs : List (List Int)) (i : Int) : (List Int) := xs.getD i.toNat ([] : List Int)
theorem at_L6 {w : World} {A : Option Addr} {n : Nat} {xs : List (List Int)} (h : Kd.C (Kd.slice 5 (Kd.int .u8)) w A n xs) (i : Int) (h0 : 0 ≤ i) (h1 : i < n) : ∃ ad A0 c0, A = some ad ∧ w.cell? (ad.add i.toNat) = some (.slice A0 (rd_L6 xs i).length c0) ∧ (rd_L6 xs i).length ≤ c0 ∧ (Kd.int .u8).C w A0 (rd_L6 xs i).length (rd_L6 xs i) := by
  obtain ⟨ad, c, e, _, hK, hc0⟩ := Kd.C_get h ([] : List Int) i h0 h1
  have hc : ∀ j u, c[j]? = some u → w.cell? (ad.add (i.toNat * 1 + j)) = some u := hc0
  obtain ⟨A0, c0, rfl, l0, g0⟩ := hK
  exact ⟨ad, A0, c0, e, by have hq := hc 0 _ rfl; rwa [Nat.mul_one, Nat.add_zero] at hq, l0, g0⟩

structure S58 where
  f0 : ByteArray
  f1 : Int
structure S74 where
  f0 : Int
  f1 : ByteArray
  f2 : Int
  f3 : Int
def z74 : S74 := ⟨(0 : Int), (⟨#[]⟩ : ByteArray), (0 : Int), (0 : Int)⟩
def k74 : Kd S74 := Kd.iso (Kd.pair (Kd.int .u8) (Kd.pair Kd.string (Kd.pair (Kd.int .i64) (Kd.int .i64)))) (fun x : S74 => (x.f0, x.f1, x.f2, x.f3))
theorem k74_open {w : World} {x : S74} {cs : List Value} (h : k74.K w x cs) : cs = [.int .u8 x.f0, .string x.f1, .int .i64 x.f2, .int .i64 x.f3] := by
  obtain ⟨_, _, rfl, rfl, ⟨_, _, rfl, rfl, ⟨_, _, rfl, rfl, rfl⟩⟩⟩ := h
  exact rfl
theorem k74_mk (w : World) (x : S74)  : k74.K w x [.int .u8 x.f0, .string x.f1, .int .i64 x.f2, .int .i64 x.f3] := ⟨[.int .u8 x.f0], [.string x.f1, .int .i64 x.f2, .int .i64 x.f3], rfl, rfl, ⟨[.string x.f1], [.int .i64 x.f2, .int .i64 x.f3], rfl, rfl, ⟨[.int .i64 x.f2], [.int .i64 x.f3], rfl, rfl, rfl⟩⟩⟩
def rd_T74 (xs : List S74) (i : Int) : S74 := xs.getD i.toNat z74
theorem at_T74 {w : World} {A : Option Addr} {n : Nat} {xs : List S74} (h : Kd.C k74 w A n xs) (i : Int) (h0 : 0 ≤ i) (h1 : i < n) : ∃ ad , A = some ad ∧ w.cell? (ad.add (i.toNat * 4)) = some (.int .u8 (rd_T74 xs i).f0) ∧ w.cell? ⟨(ad.add (i.toNat * 4)).block, (ad.add (i.toNat * 4)).off + 1, none⟩ = some (.string (rd_T74 xs i).f1) ∧ w.cell? ⟨(ad.add (i.toNat * 4)).block, (ad.add (i.toNat * 4)).off + 2, none⟩ = some (.int .i64 (rd_T74 xs i).f2) ∧ w.cell? ⟨(ad.add (i.toNat * 4)).block, (ad.add (i.toNat * 4)).off + 3, none⟩ = some (.int .i64 (rd_T74 xs i).f3) := by
  obtain ⟨ad, c, e, _, hK, hc0⟩ := Kd.C_get h z74 i h0 h1
  have hc : ∀ j u, c[j]? = some u → w.cell? (ad.add (i.toNat * 4 + j)) = some u := hc0
  obtain rfl := k74_open hK
  exact ⟨ad, e, hc 0 _ rfl, by rw [← add_field _ _ 1 (by omega)]; exact hc 1 _ rfl, by rw [← add_field _ _ 2 (by omega)]; exact hc 2 _ rfl, by rw [← add_field _ _ 3 (by omega)]; exact hc 3 _ rfl⟩

end Go.Proofs.Ytlmcefhpnfoahaa.P
end

section
namespace Go.Proofs.Ytlmcefhpnfoahaa.P
open Go.RowKit Go.Proofs.YtlmcefhpnfoahaaW.PrintWords Go.Proofs.YtlmcefhpnfoahaaW.PrintLast Go.Proofs.YtlmcefhpnfoahaaW.PrintMore

/-- May a value be? -/
def mayB (x : S39) : Bool :=
  (x.f0 == 0 && x.f1 == 0 && x.f2.toList.isEmpty) || (x.f0 == 1 && (x.f1 == 0 || x.f1 == 1) && x.f2.toList.isEmpty) || (x.f0 == 2 && x.f2.toList.isEmpty) || (x.f0 == 3 && x.f1 == 0)
/-- A number's eight bytes. -/
def be8 (n : Int) : List Int := [56, 48, 40, 32, 24, 16, 8, 0].map fun j : Nat => (n + 9223372036854775808) / 2 ^ j % 256
/-- A text's bytes, ff behind each 0. -/
def esc : List Int → List Int
  | [] => []
  | c :: r => if c = 0 then 0 :: 255 :: esc r else c :: esc r
/-- A value's bytes. -/
def encV (x : S39) : List Int :=
  if x.f0 = 0 then [1] else if x.f0 = 1 then [2, x.f1 % 256] else if x.f0 = 2 then 3 :: be8 x.f1 else 4 :: (esc (bytesOf x.f2) ++ [0, 1])
/-- A row's bytes. -/
def encR (l : List S39) : List Int := l.flatMap encV
/-- Is a value's number one of 64 bits? -/
def okNum (x : S39) : Bool := decide (-9223372036854775808 ≤ x.f1) && decide (x.f1 ≤ 9223372036854775807)
def isByte (c : Int) : Bool := decide (0 ≤ c) && decide (c ≤ 255)
def key_Append.f (l0 : List Int) (l1 : List S39) : Option (List Int × Int) :=
  if l0.length + (encR l1).length ≤ 70368744177664 ∧ l1.all okNum = true then some (if l1.all mayB then (l0 ++ encR l1, 0) else ([], 1)) else none

theorem be8_length (n : Int) : (be8 n).length = 8 := rfl
theorem esc_append (a b : List Int) : esc (a ++ b) = esc a ++ esc b := by
  induction a with
  | nil => rfl
  | cons c r ih => simp only [List.cons_append, esc]; split <;> simp [ih]
theorem esc_ge (l : List Int) : l.length ≤ (esc l).length := by
  induction l with
  | nil => exact Nat.le_refl _
  | cons c r ih => simp only [esc]; split <;> simp <;> omega
theorem esc_take_le (l : List Int) (k : Nat) : (esc (l.take k)).length ≤ (esc l).length := by
  have h : esc l = esc (l.take k) ++ esc (l.drop k) := by rw [← esc_append, List.take_append_drop]
  rw [h, List.length_append]
  omega
theorem esc_snoc (l : List Int) (k : Nat) (h : k < l.length) : esc (l.take (k + 1)) = esc (l.take k) ++ (if rd l k = 0 then [rd l k, 255] else [rd l k]) := by
  rw [List.take_succ_eq_append_getElem h, esc_append]
  have e : rd l k = l[k] := by simp [rd, List.getD_eq_getElem?_getD, List.getElem?_eq_getElem h]
  rw [e]
  simp only [esc]
  split
  · rename_i h0; rw [h0]
  · rfl
theorem encR_snoc (l : List S39) (k : Nat) (h : k < l.length) : encR (l.take (k + 1)) = encR (l.take k) ++ encV (rd_T39 l k) := by
  unfold encR
  rw [List.take_succ_eq_append_getElem h, List.flatMap_append]
  simp [rd_T39, List.getD_eq_getElem?_getD, List.getElem?_eq_getElem h]
theorem encR_take_le (l : List S39) (k : Nat) : (encR (l.take k)).length ≤ (encR l).length := by
  have h : encR l = encR (l.take k) ++ encR (l.drop k) := by
    unfold encR
    rw [← List.flatMap_append, List.take_append_drop]
  rw [h, List.length_append]
  omega
theorem be8_take (n : Int) (j : Nat) (h : j < 8) : (be8 n).take (j + 1) = (be8 n).take j ++ [(n + 9223372036854775808) / 2 ^ (56 - 8 * j) % 256] := by
  have : j = 0 ∨ j = 1 ∨ j = 2 ∨ j = 3 ∨ j = 4 ∨ j = 5 ∨ j = 6 ∨ j = 7 := by omega
  rcases this with rfl | rfl | rfl | rfl | rfl | rfl | rfl | rfl <;> rfl
theorem xor_top (n : Int) (h1 : -9223372036854775808 ≤ n) (h2 : n ≤ 9223372036854775807) : bits .xor .u64 (IntKind.u64.wrap n) 9223372036854775808 = n + 9223372036854775808 := by
  have hw : ∀ m : Int, IntKind.u64.wrap m = m % 18446744073709551616 := fun m => rfl
  rw [hw]
  have hx : ∀ a : Nat, a < 9223372036854775808 → a ^^^ 9223372036854775808 = a + 9223372036854775808 := by
    intro a ha
    have e : (9223372036854775808 : Nat) = 2 ^ 63 * 1 := rfl
    have e2 : a = 2 ^ 63 * 0 + a := by omega
    rw [Nat.xor_comm, Nat.add_comm]
    have := Nat.two_pow_add_eq_or_of_lt (i := 63) (b := a) (by simpa using ha) 1
    rw [e, this]
    apply Nat.eq_of_testBit_eq
    intro i
    simp only [Nat.testBit_xor, Nat.testBit_or]
    by_cases hi : i = 63
    · subst hi
      have : a.testBit 63 = false := Nat.testBit_lt_two_pow (by simpa using ha)
      rw [this]
      simp
    · have : (2 ^ 63 * 1).testBit i = false := by
        rw [Nat.mul_one, Nat.testBit_two_pow]
        simp; omega
      rw [this]
      simp
  by_cases h0 : 0 ≤ n
  · have e : n % 18446744073709551616 = n := by omega
    rw [e, u64_xor n _ h0 (by omega) (by omega) (by omega)]
    have := hx n.toNat (by omega)
    have e9 : (9223372036854775808 : Int).toNat = 9223372036854775808 := rfl
    rw [e9, this]
    omega
  · have e : n % 18446744073709551616 = n + 18446744073709551616 := by omega
    rw [e, u64_xor _ _ (by omega) (by omega) (by omega) (by omega)]
    have e9 : (9223372036854775808 : Int).toNat = 9223372036854775808 := rfl
    rw [e9]
    have hb := hx (n + 9223372036854775808).toNat (by omega)
    have e3 : (n + 18446744073709551616).toNat = (n + 9223372036854775808).toNat ^^^ 9223372036854775808 := by rw [hb]; omega
    rw [e3, Nat.xor_assoc, Nat.xor_self, Nat.xor_zero]
    omega
/-- A number by its bytes, the highest first. -/
def num256 (l : List Int) : Int := l.foldl (fun u c => u * 256 + c) 0
theorem rd_isByte {l : List Int} (hb : ∀ x ∈ l, isByte x = true) (i : Nat) (h : i < l.length) : 0 ≤ rd l i ∧ rd l i ≤ 255 := by
  have e : rd l i = l[i] := by simp [rd, List.getD_eq_getElem?_getD, List.getElem?_eq_getElem h]
  rw [e]
  have := hb _ (List.getElem_mem h)
  unfold isByte at this
  simpa using this
theorem num256_snoc (l : List Int) (k : Nat) (h : k < l.length) : num256 (l.take (k + 1)) = num256 (l.take k) * 256 + rd l k := by
  have e : rd l k = l[k] := by simp [rd, List.getD_eq_getElem?_getD, List.getElem?_eq_getElem h]
  rw [e]
  unfold num256
  rw [List.take_succ_eq_append_getElem h, List.foldl_append]
  rfl
theorem num256_lt (l : List Int) (hb : ∀ x ∈ l, isByte x = true) (k : Nat) (h : k ≤ l.length) : 0 ≤ num256 (l.take k) ∧ num256 (l.take k) < 256 ^ k := by
  induction k with
  | zero => simp [num256]
  | succ k ih =>
    have := ih (by omega)
    have hr := rd_isByte hb k (by omega)
    rw [num256_snoc l k (by omega), Int.pow_succ]
    omega
end Go.Proofs.Ytlmcefhpnfoahaa.P
end

section
namespace Go.Proofs.Ytlmcefhpnfoahaa.P
open Go.RowKit Go.Proofs.YtlmcefhpnfoahaaW.PrintWords Go.Proofs.YtlmcefhpnfoahaaW.PrintLast Go.Proofs.YtlmcefhpnfoahaaW.PrintMore
set_option linter.unusedVariables false
set_option linter.unusedSimpArgs false

/-- Bit i of bytes. -/
def bitAt (l : List Int) (i : Nat) : Bool := rd l ((i / 8 : Nat) : Int) / 2 ^ (i % 8) % 2 == 1
/-- Bit i of bytes is set. -/
def setBit (l : List Int) (i : Nat) : List Int := l.set (i / 8) (bits .or .u8 (rd l ((i / 8 : Nat) : Int)) (2 ^ (i % 8)))
theorem rd_set (l : List Int) (i j : Nat) (v : Int) (h : i < l.length) : rd (l.set i v) (j : Int) = if i = j then v else rd l (j : Int) := by
  simp only [rd, Int.toNat_natCast, List.getD_eq_getElem?_getD, List.getElem?_set]
  by_cases e : i = j
  · subst e; simp [h]
  · simp [e]
theorem or_bit (c j : Nat) (hc : c < 256) (hj : j < 8) : bits .or .u8 (c : Int) (2 ^ j) = ((c ||| 2 ^ j : Nat) : Int) := by
  have e : ((2 : Int) ^ j) = ((2 ^ j : Nat) : Int) := by simp
  have hp : 2 ^ j < 256 := Nat.lt_of_lt_of_le (Nat.pow_lt_pow_right (by decide) hj) (by decide)
  rw [e, u8_or_nat c (2 ^ j) hc hp]
theorem or_bit_lt (c j : Nat) (hc : c < 256) (hj : j < 8) : c ||| 2 ^ j < 256 := by
  have hp : 2 ^ j < 2 ^ 8 := Nat.pow_lt_pow_right (by decide) hj
  exact Nat.or_lt_two_pow (n := 8) hc hp
theorem bit_test (c i : Nat) : (((c : Int) / 2 ^ i % 2 == 1) : Bool) = c.testBit i := by
  rw [Nat.testBit_eq_decide_div_mod_eq]
  have e : ((c : Int) / 2 ^ i % 2) = ((c / 2 ^ i % 2 : Nat) : Int) := by simp
  rw [e]
  rw [Bool.eq_iff_iff]
  simp
  omega
theorem byte_nat {l : List Int} (hb : ∀ x ∈ l, isByte x = true) (i : Nat) : ∃ c : Nat, c < 256 ∧ rd l (i : Int) = (c : Int) := by
  by_cases h : i < l.length
  · obtain ⟨h0, h1⟩ := rd_isByte hb i h
    exact ⟨(rd l i).toNat, by omega, by omega⟩
  · exact ⟨0, by decide, by simp [rd, List.getD_eq_getElem?_getD, List.getElem?_eq_none (by omega : l.length ≤ i)]⟩
theorem setBit_length (l : List Int) (i : Nat) : (setBit l i).length = l.length := by simp [setBit]
theorem setBit_bytes {l : List Int} (hb : ∀ x ∈ l, isByte x = true) (i : Nat) : ∀ x ∈ setBit l i, isByte x = true := by
  intro x hx
  unfold setBit at hx
  rcases List.mem_or_eq_of_mem_set hx with h | h
  · exact hb x h
  · obtain ⟨c, hc, e⟩ := byte_nat hb (i / 8)
    rw [e, or_bit c _ hc (by omega)] at h
    have := or_bit_lt c (i % 8) hc (by omega)
    subst h
    simp [isByte]
    omega
theorem bitAt_setBit {l : List Int} (hb : ∀ x ∈ l, isByte x = true) (i j : Nat) (hi : i / 8 < l.length) : bitAt (setBit l i) j = (decide (i = j) || bitAt l j) := by
  unfold bitAt setBit
  rw [rd_set l (i / 8) (j / 8) _ hi]
  obtain ⟨c, hc, e⟩ := byte_nat hb (i / 8)
  by_cases h8 : i / 8 = j / 8
  · rw [if_pos h8, ← h8, e, or_bit c _ hc (by omega), bit_test, bit_test, Nat.testBit_or, Nat.testBit_two_pow]
    by_cases hij : i = j
    · subst hij; simp
    · have : ¬ i % 8 = j % 8 := by omega
      simp [hij, this]
  · rw [if_neg h8]
    have : ¬ i = j := by intro h; subst h; exact h8 rfl
    simp [this]
theorem bitAt_zeros (n i : Nat) : bitAt (List.replicate n 0) i = false := by
  unfold bitAt
  have e : rd (List.replicate n 0) ((i / 8 : Nat) : Int) = 0 := by
    simp only [rd, Int.toNat_natCast, List.getD_eq_getElem?_getD, List.getElem?_replicate]
    split <;> rfl
  rw [e]
  simp
/-- Bytes are told by their bits. -/
theorem bits_ext (a b : List Int) (ha : ∀ x ∈ a, isByte x = true) (hb : ∀ x ∈ b, isByte x = true) (hl : a.length = b.length) (h : ∀ i, i < 8 * a.length → bitAt a i = bitAt b i) : a = b := by
  apply List.ext_getElem hl
  intro k h1 h2
  have ea : rd a (k : Int) = a[k] := by simp [rd, List.getD_eq_getElem?_getD, List.getElem?_eq_getElem h1]
  have eb : rd b (k : Int) = b[k] := by simp [rd, List.getD_eq_getElem?_getD, List.getElem?_eq_getElem h2]
  rw [← ea, ← eb]
  obtain ⟨c, hc, e⟩ := byte_nat ha k
  obtain ⟨d, hd, f⟩ := byte_nat hb k
  rw [e, f]
  congr 1
  apply Nat.eq_of_testBit_eq
  intro i
  by_cases hi : i < 8
  · have := h (8 * k + i) (by omega)
    unfold bitAt at this
    rw [show (8 * k + i) / 8 = k by omega, show (8 * k + i) % 8 = i by omega, e, f, bit_test, bit_test] at this
    exact this
  · have hp : 256 ≤ 2 ^ i := by
      have : 2 ^ 8 ≤ 2 ^ i := Nat.pow_le_pow_right (by decide) (by omega)
      simpa using this
    rw [Nat.testBit_lt_two_pow (by omega), Nat.testBit_lt_two_pow (by omega)]
/-- The first n bits p as bytes: what is laid up to bit k. -/
def layN (p : Nat → Bool) (n : Nat) : Nat → List Int
  | 0 => List.replicate ((n + 7) / 8) 0
  | k + 1 => if p k then setBit (layN p n k) k else layN p n k
theorem layN_length (p : Nat → Bool) (n : Nat) : ∀ k, (layN p n k).length = (n + 7) / 8 := by
  intro k
  induction k with
  | zero => simp [layN]
  | succ k ih => unfold layN; split <;> simp [setBit_length, ih]
theorem layN_bytes (p : Nat → Bool) (n : Nat) : ∀ k, ∀ x ∈ layN p n k, isByte x = true := by
  intro k
  induction k with
  | zero => intro x hx; unfold layN at hx; rw [(List.mem_replicate.mp hx).2]; rfl
  | succ k ih => unfold layN; split; exact setBit_bytes ih k; exact ih
theorem layN_bit (p : Nat → Bool) (n : Nat) : ∀ k, k ≤ n → ∀ j, bitAt (layN p n k) j = (decide (j < k) && p j) := by
  intro k
  induction k with
  | zero => intro _ j; unfold layN; rw [bitAt_zeros]; simp
  | succ k ih =>
    intro hk j
    unfold layN
    by_cases hp : p k = true
    · rw [if_pos hp, bitAt_setBit (layN_bytes p n k) k j (by rw [layN_length]; omega), ih (by omega)]
      by_cases e : k = j
      · subst e; simp [hp]
      · have : (j < k + 1) ↔ (j < k) := by omega
        simp [e, this]
    · rw [if_neg hp, ih (by omega)]
      by_cases e : k = j
      · subst e; simp [hp]
      · have : (j < k + 1) ↔ (j < k) := by omega
        simp [this]
def lay (p : Nat → Bool) (n : Nat) : List Int := layN p n n
theorem lay_length (p : Nat → Bool) (n : Nat) : (lay p n).length = (n + 7) / 8 := layN_length p n n
theorem lay_bytes (p : Nat → Bool) (n : Nat) : ∀ x ∈ lay p n, isByte x = true := layN_bytes p n n
theorem lay_bit (p : Nat → Bool) (n : Nat) (j : Nat) : bitAt (lay p n) j = (decide (j < n) && p j) := layN_bit p n n (Nat.le_refl n) j
/-- Bytes whose bits behind the n-th are 0 are what is laid of their bits. -/
theorem lay_of (b : List Int) (n : Nat) (hb : ∀ x ∈ b, isByte x = true) (hl : b.length = (n + 7) / 8) (h : ∀ j, n ≤ j → j < 8 * b.length → bitAt b j = false) (p : Nat → Bool) (hp : ∀ j, j < n → p j = bitAt b j) : lay p n = b := by
  apply bits_ext _ _ (lay_bytes p n) hb (by rw [lay_length, hl])
  intro i hi
  rw [lay_bit]
  rw [lay_length, ← hl] at hi
  by_cases hn : i < n
  · simp [hn, hp i hn]
  · simp [hn, h i (by omega) hi]
theorem bitAt_append (a b : List Int) (i : Nat) (h : i < 8 * a.length) : bitAt (a ++ b) i = bitAt a i := by
  unfold bitAt
  have e : rd (a ++ b) ((i / 8 : Nat) : Int) = rd a ((i / 8 : Nat) : Int) := by
    simp only [rd, Int.toNat_natCast, List.getD_eq_getElem?_getD]
    rw [List.getElem?_append_left (by omega)]
  rw [e]
end Go.Proofs.Ytlmcefhpnfoahaa.P
end

section
namespace Go.Proofs.Ytlmcefhpnfoahaa.P
open Go.RowKit Go.Proofs.YtlmcefhpnfoahaaW.PrintWords Go.Proofs.YtlmcefhpnfoahaaW.PrintLast Go.Proofs.YtlmcefhpnfoahaaW.PrintMore
set_option linter.unusedVariables false
set_option linter.unusedSimpArgs false

/-- What a block made just ahead of a call holds behind it. -/
theorem box_at {W W' : World} {cs : Array Value} {t : TypeId} (hb : Below (W.alloc (.cells cs t)).heap.size (W.alloc (.cells cs t)) W') (i : Nat) {v : Value} (h : cs[i]? = some v) : W'.cell? ⟨W.heap.size, i, none⟩ = some v := by
  have hs : (W.alloc (.cells cs t)).heap.size = W.heap.size + 1 := by simp
  have h1 : (W.alloc (.cells cs t)).cell? ⟨W.heap.size, i, none⟩ = some v := by
    rw [cell_of_row (W.alloc (.cells cs t)) W.heap.size i cs t (0, 0) (heap_alloc_new W _)]
    exact h
  rw [hb.cell (p := ⟨W.heap.size, i, none⟩) (by rw [hs]; exact Nat.lt_succ_self _)]
  exact h1
/-- A row of the call's own (base B: what is at hand when the call began), and what was there. -/
structure Own {α : Type} (d : Kd α) (e B : Nat) (w0 W : World) (v : Value) (xs : List α) : Prop where
  r : Kd.R d e W B (fun _ => True) v xs
  b : Below B w0 W
  s : B ≤ W.heap.size
section
variable {α : Type} {d : Kd α} {e B : Nat} {w0 W W' : World} {v : Value} {xs : List α}
theorem Own.nil (d : Kd α) (e : Nat) (hb : Below B w0 W) (hs : B ≤ W.heap.size) : Own d e B w0 W (.slice none 0 0) [] := ⟨Kd.R_nil _ _ _ _ _, hb, hs⟩
theorem Own.start (d : Kd α) (e : Nat) (w : World) : Own d e w.heap.size w w (.slice none 0 0) [] := ⟨Kd.R_nil _ _ _ _ _, Below.refl _ _, Nat.le_refl _⟩
theorem Own.step (h : Own d e B w0 W v xs) (hb : Below W.heap.size W W') : Own d e B w0 W' v xs := ⟨Kd.R_below h.r hb, below_then h.b h.s hb, Nat.le_trans h.s hb.size⟩
theorem Own.alloc (h : Own d e B w0 W v xs) (o : Obj) : Own d e B w0 (W.alloc o) v xs := h.step (below_alloc (Below.refl _ _) o)
theorem Own.drew (h : Own d e B w0 W v xs) : Own d e B w0 W.drew v xs := h.step (below_drew (Below.refl _ _))
theorem Own.drewN (h : Own d e B w0 W v xs) (n : Nat) : Own d e B w0 (W.drewN n) v xs := h.step (pw_below_drewN (Below.refl _ _) n)
theorem Own.sl (h : Own d e B w0 W v xs) : ∃ A c, v = .slice A xs.length c ∧ xs.length ≤ c ∧ d.C W A xs.length xs := Kd.R_reads h.r
theorem Own.len {A : Option Addr} {n c : Nat} (h : Own d e B w0 W (.slice A n c) xs) : n = xs.length := (Kd.R_reads' h.r).1
theorem Own.lt (h : Own d e B w0 W v xs) {k : Nat} (hk : v.ownBlock = some k) : k < W.heap.size := Kd.R_lt h.r k hk
theorem Own.of_cast (h : Own d e B w0 W v xs) {ys : List α} (e1 : xs = ys) : Own d e B w0 W v ys := by subst e1; exact h
end
/-- A block that an own row v is apart from. -/
structure Box (W : World) (g : Nat) (cs : Array Value) (t : TypeId) (fr : Nat × Nat) (v : Value) : Prop where
  h : W.heap[g]? = some (.cells cs t fr)
  n : v.ownBlock ≠ some g
section
variable {W W' w1 : World} {g : Nat} {cs : Array Value} {t : TypeId} {fr : Nat × Nat} {v v1 : Value}
theorem Box.lt (h : Box W g cs t fr v) : g < W.heap.size := (Array.getElem?_eq_some_iff.1 h.h).1
theorem Box.made {α : Type} {d : Kd α} {e B : Nat} {w0 : World} {xs : List α} (h : Own d e B w0 W v xs) (cs : Array Value) (t : TypeId) : Box (W.alloc (.cells cs t)) W.heap.size cs t (0, 0) v :=
  ⟨heap_alloc_new W _, fun hk => Nat.lt_irrefl _ (h.lt hk)⟩
theorem Box.step (h : Box W g cs t fr v) (hb : Below W.heap.size W W') : Box W' g cs t fr v := ⟨(hb.block g h.lt).trans h.h, h.n⟩
theorem Box.alloc (h : Box W g cs t fr v) (o : Obj) : Box (W.alloc o) g cs t fr v := h.step (below_alloc (Below.refl _ _) o)
theorem Box.drewN (h : Box W g cs t fr v) (n : Nat) : Box (W.drewN n) g cs t fr v := h.step (pw_below_drewN (Below.refl _ _) n)
theorem Box.app (h : Box W g cs t fr v) (hg : W.grownBy w1 v.ownBlock) (hat : v1.ownBlock = v.ownBlock ∨ ∃ b, v1.ownBlock = some b ∧ W.heap.size ≤ b) : Box w1 g cs t fr v1 := by
  refine ⟨(hg.block g h.lt (fun e => h.n e.symm)).trans h.h, ?_⟩
  rcases hat with e | ⟨b, e, hb⟩
  · rw [e]; exact h.n
  · rw [e]
    have := h.lt
    intro e2
    injection e2 with e2
    omega
theorem Box.cell (h : Box W g cs t fr v) (i : Nat) {u : Value} (hu : cs[i]? = some u) : W.cell? ⟨g, i, none⟩ = some u := (cell_of_row W g i cs t fr h.h).trans hu
end
section
variable {P : Program} {ops : Array Oper} {rest : List Oper} {o : Oper} {a : Act} {Q : Exit → Act → World → Prop}
/-- append(v, y0, y1, ..): whole bytes; the goal's world is that of the variadic's box. -/
theorem Own.app_bytes {B : Nat} {w0 W : World} {v : Value} {xs : List Int} (hO : Own (Kd.int .u8) 5 B w0 W v xs) (hgd : o.guard = none) (s x : Operand) (t : TypeId) (ys : List Int) (cs : List Value) (hcs : cs = nums .u8 ys)
    (ho : o.op = .call { callee := .builtin .append, args := #[s, x], argTypes := #[t, t] })
    (ht : P.underlying t = some (.slice 5)) (hinfo : (P.info? 5).map (fun i => (i.zero, i.size, i.bytes)) = some (some (.int .u8 0), 1, 1))
    (hs : a.eval s = v) (hx : a.eval x = .slice (some ⟨W.heap.size, 0, none⟩) cs.length cs.length)
    (hl : xs.length + ys.length ≤ 140737488355328)
    (h : ∀ v1 w1, Own (Kd.int .u8) 5 B w0 w1 v1 (xs ++ ys) → (W.alloc (.cells cs.toArray 5)).grownBy w1 v.ownBlock → (v1.ownBlock = v.ownBlock ∨ ∃ b, v1.ownBlock = some b ∧ (W.alloc (.cells cs.toArray 5)).heap.size ≤ b) → wpList P ops Q rest (a.put o.dst v1) w1) :
    wpList P ops Q (o :: rest) a (W.alloc (.cells cs.toArray 5)) := by
  subst hcs
  have hsz : (W.alloc (.cells (nums .u8 ys).toArray 5)).heap.size = W.heap.size + 1 := by simp
  have hlen : (nums .u8 ys).length = ys.length := nums_length _ _
  rw [hlen] at hx
  have hC : Kd.C (Kd.int .u8) (W.alloc (.cells (nums .u8 ys).toArray 5)) (some ⟨W.heap.size, 0, none⟩) ys.length ys := by
    refine Kd.C_of_reads (d := (0 : Int)) (h1 := fun _ => rfl) ⟨rfl, by omega, fun _ => ⟨_, rfl, fun j hj => ?_⟩⟩
    rw [add_plain, cell_of_row _ W.heap.size j _ 5 (0, 0) (heap_alloc_new W _)]
    simp [nums, List.getD_eq_getElem?_getD, List.getElem?_eq_getElem hj]
  refine Kd.R_append_rows (Kd.int .u8) (w0 := w0) B hgd s x t 5 (.int .u8 0) 1 ho ht hinfo rfl (by decide) (by omega) v xs ys (some ⟨W.heap.size, 0, none⟩) ys.length ys.length (fun _ => True) (fun _ => False) hs hx
    (hO.alloc _).r hC (fun _ _ h => h) (fun _ h => h.elim) (fun _ _ => trivial) (hO.alloc _).b (hO.alloc _).s (by omega) ?_
  intro v1 w1 ho1 hb hg hat
  refine h v1 w1 ⟨ho1, hb, ?_⟩ hg hat
  have := hO.s; have := hg.size; rw [hsz] at this; omega
/-- append(v, ys...): bytes that are read. -/
theorem Own.app_read {B : Nat} {w0 W : World} {v : Value} {xs : List Int} (hO : Own (Kd.int .u8) 5 B w0 W v xs) (hgd : o.guard = none) (s x : Operand) (t : TypeId) (ys : List Int) (A : Option Addr) (n c : Nat) (hC : Kd.C (Kd.int .u8) W A n ys)
    (ho : o.op = .call { callee := .builtin .append, args := #[s, x], argTypes := #[t, t] })
    (ht : P.underlying t = some (.slice 5)) (hinfo : (P.info? 5).map (fun i => (i.zero, i.size, i.bytes)) = some (some (.int .u8 0), 1, 1))
    (hs : a.eval s = v) (hx : a.eval x = .slice A n c)
    (hl : xs.length + n ≤ 140737488355328)
    (h : ∀ v1 w1, Own (Kd.int .u8) 5 B w0 w1 v1 (xs ++ ys) → W.grownBy w1 v.ownBlock → (v1.ownBlock = v.ownBlock ∨ ∃ b, v1.ownBlock = some b ∧ W.heap.size ≤ b) → wpList P ops Q rest (a.put o.dst v1) w1) :
    wpList P ops Q (o :: rest) a W := by
  refine Kd.R_append_rows (Kd.int .u8) (w0 := w0) B hgd s x t 5 (.int .u8 0) 1 ho ht hinfo rfl (by decide) (by omega) v xs ys A n c (fun _ => True) (fun _ => False) hs hx
    hO.r hC (fun _ _ h => h) (fun _ h => h.elim) (fun _ _ => trivial) hO.b hO.s (by omega) ?_
  intro v1 w1 ho1 hb hg hat
  exact h v1 w1 ⟨ho1, hb, by have := hO.s; have := hg.size; omega⟩ hg hat
end
section
variable {ops : Array Oper} {rest : List Oper} {o : Oper} {a : Act} {Q : Exit → Act → World → Prop} {B : Nat} {w0 W : World} {v : Value} {xs : List Int}
/-- append(v, y), append(v, y, z) of bytes, in the program at hand. -/
theorem Own.byte (hO : Own (Kd.int .u8) 5 B w0 W v xs) (hgd : o.guard = none) (s x : Operand) (y : Int)
    (ho : o.op = .call { callee := .builtin .append, args := #[s, x], argTypes := #[22, 22] }) (hs : a.eval s = v) (hx : a.eval x = .slice (some ⟨W.heap.size, 0, none⟩) 1 1) (hl : xs.length + 1 ≤ 140737488355328)
    (h : ∀ v1 w1, Own (Kd.int .u8) 5 B w0 w1 v1 (xs ++ [y]) → (W.alloc (.cells #[.int .u8 y] 5)).grownBy w1 v.ownBlock → (v1.ownBlock = v.ownBlock ∨ ∃ b, v1.ownBlock = some b ∧ (W.alloc (.cells #[.int .u8 y] 5)).heap.size ≤ b) → wpList Try.prog ops Q rest (a.put o.dst v1) w1) :
    wpList Try.prog ops Q (o :: rest) a (W.alloc (.cells #[.int .u8 y] 5)) :=
  hO.app_bytes hgd s x 22 [y] [.int .u8 y] rfl ho Try.underlying22 info5 hs hx hl h
theorem Own.byte2 (hO : Own (Kd.int .u8) 5 B w0 W v xs) (hgd : o.guard = none) (s x : Operand) (y z : Int)
    (ho : o.op = .call { callee := .builtin .append, args := #[s, x], argTypes := #[22, 22] }) (hs : a.eval s = v) (hx : a.eval x = .slice (some ⟨W.heap.size, 0, none⟩) 2 2) (hl : xs.length + 2 ≤ 140737488355328)
    (h : ∀ v1 w1, Own (Kd.int .u8) 5 B w0 w1 v1 (xs ++ [y, z]) → (W.alloc (.cells #[.int .u8 y, .int .u8 z] 5)).grownBy w1 v.ownBlock → (v1.ownBlock = v.ownBlock ∨ ∃ b, v1.ownBlock = some b ∧ (W.alloc (.cells #[.int .u8 y, .int .u8 z] 5)).heap.size ≤ b) → wpList Try.prog ops Q rest (a.put o.dst v1) w1) :
    wpList Try.prog ops Q (o :: rest) a (W.alloc (.cells #[.int .u8 y, .int .u8 z] 5)) :=
  hO.app_bytes hgd s x 22 [y, z] [.int .u8 y, .int .u8 z] rfl ho Try.underlying22 info5 hs hx hl h
/-- append(v, ys...) of bytes that are read. -/
theorem Own.bytes (hO : Own (Kd.int .u8) 5 B w0 W v xs) (hgd : o.guard = none) (s x : Operand) {ys : List Int} {A : Option Addr} {n c : Nat} (hC : Kd.C (Kd.int .u8) W A n ys)
    (ho : o.op = .call { callee := .builtin .append, args := #[s, x], argTypes := #[22, 22] }) (hs : a.eval s = v) (hx : a.eval x = .slice A n c) (hl : xs.length + n ≤ 140737488355328)
    (h : ∀ v1 w1, Own (Kd.int .u8) 5 B w0 w1 v1 (xs ++ ys) → W.grownBy w1 v.ownBlock → (v1.ownBlock = v.ownBlock ∨ ∃ b, v1.ownBlock = some b ∧ W.heap.size ≤ b) → wpList Try.prog ops Q rest (a.put o.dst v1) w1) :
    wpList Try.prog ops Q (o :: rest) a W :=
  hO.app_read hgd s x 22 ys A n c hC ho Try.underlying22 info5 hs hx hl h
end
/-- append(v, x), x one api.Value. -/
theorem Own.val {ops : Array Oper} {rest : List Oper} {o : Oper} {a : Act} {Q : Exit → Act → World → Prop} {B : Nat} {w0 W : World} {v : Value} {xs : List S39} (hO : Own k39 39 B w0 W v xs) (hgd : o.guard = none) (s x : Operand) (y : S39) {y0 y1 y2 : Value}
    (ho : o.op = .call { callee := .builtin .append, args := #[s, x], argTypes := #[23, 23] }) (e0 : y0 = .int .u8 y.f0) (e1 : y1 = .int .i64 y.f1) (e2 : y2 = .string y.f2) (hs : a.eval s = v) (hx : a.eval x = .slice (some ⟨W.heap.size, 0, none⟩) 1 1) (hl : xs.length + 1 ≤ 4398046511104)
    (h : ∀ v1 w1, Own k39 39 B w0 w1 v1 (xs ++ [y]) → W.grownBy w1 v.ownBlock → (v1.ownBlock = v.ownBlock ∨ ∃ b, v1.ownBlock = some b ∧ W.heap.size ≤ b) → wpList Try.prog ops Q rest (a.put o.dst v1) w1) :
    wpList Try.prog ops Q (o :: rest) a (W.alloc (.cells #[y0, y1, y2] 39)) := by
  subst e0 e1 e2
  refine Kd.R_append k39 (w0 := w0) B hgd s x 23 39 (.agg #[(.int .u8 0), (.int .i64 0), (.string ⟨#[]⟩)]) 32 ho Try.underlying23 info39 rfl (by decide) (by omega) v xs y [.int .u8 y.f0, .int .i64 y.f1, .string y.f2] (fun _ => True) (fun _ => False) hs hx (k39_mkM _ _ _ y) (fun _ hk => hk.elim) (fun _ _ => trivial) hO.r hO.b hO.s (by omega) ?_
  intro v1 w1 ho1 hb hg hat
  exact h v1 w1 ⟨ho1, hb, by have := hO.s; have := hg.size; omega⟩ hg hat
theorem Own.empty {α : Type} (d : Kd α) (e : Nat) {B : Nat} {w0 W : World} (hb : Below B w0 W) (hs : B ≤ W.heap.size) : Own d e B w0 (W.alloc (.cells #[] e)) (.slice (some ⟨W.heap.size, 0, none⟩) 0 0) [] := by
  have h := World.ownsRow_lit (base := B) (e := e) (size := d.sz) W #[] 0 hs (by simp) (by simp)
  refine ⟨⟨fun _ _ => trivial, [], by simpa using h, Reps.none _ _⟩, hb.alloc hs _, by simp; omega⟩
theorem Own.sl' {α : Type} {d : Kd α} {e B : Nat} {w0 W : World} {v : Value} {xs : List α} (h : Own d e B w0 W v xs) : ∃ A n c, v = .slice A n c ∧ Aside0 (n = xs.length) ∧ n ≤ c ∧ Aside0 (d.C W A n xs) := by
  obtain ⟨A, c, h1, h2, h3⟩ := h.sl
  exact ⟨A, xs.length, c, h1, ⟨rfl⟩, h2, ⟨h3⟩⟩
/-- append(v, ys...) of values that are read. -/
theorem Own.vals {ops : Array Oper} {rest : List Oper} {o : Oper} {a : Act} {Q : Exit → Act → World → Prop} {B : Nat} {w0 W : World} {v : Value} {xs : List S39} (hO : Own k39 39 B w0 W v xs) (hgd : o.guard = none) (s x : Operand) {ys : List S39} {A : Option Addr} {n c : Nat} (hC : Kd.C k39 W A n ys)
    (ho : o.op = .call { callee := .builtin .append, args := #[s, x], argTypes := #[23, 23] }) (hs : a.eval s = v) (hx : a.eval x = .slice A n c) (hl : xs.length + n ≤ 4398046511104)
    (h : ∀ v1 w1, Own k39 39 B w0 w1 v1 (xs ++ ys) → W.grownBy w1 v.ownBlock → (v1.ownBlock = v.ownBlock ∨ ∃ b, v1.ownBlock = some b ∧ W.heap.size ≤ b) → wpList Try.prog ops Q rest (a.put o.dst v1) w1) :
    wpList Try.prog ops Q (o :: rest) a W := by
  refine Kd.R_append_rows k39 (Rr := k39.K W) (w0 := w0) B hgd s x 23 39 (.agg #[(.int .u8 0), (.int .i64 0), (.string ⟨#[]⟩)]) 32 ho Try.underlying23 info39 rfl (by decide) (by omega) v xs ys A n c (fun _ => True) (fun _ => False) hs hx
    hO.r hC (fun y cs hK => by have := k39_open hK; subst this; exact k39_mkM _ _ _ y) (fun _ h => h.elim) (fun _ _ => trivial) hO.b hO.s (by omega) ?_
  intro v1 w1 ho1 hb hg hat
  exact h v1 w1 ⟨ho1, hb, by have := hO.s; have := hg.size; omega⟩ hg hat
/-- What a call has made, as a row of the caller's own. -/
theorem Own.made {α : Type} {d : Kd α} {e B : Nat} {w0 W W' : World} {v : Value} {xs : List α} (hb : Below B w0 W) (hs : B ≤ W.heap.size) (hr : Kd.R d e W' W.heap.size (fun _ => True) v xs) (hb' : Below W.heap.size W W') : Own d e B w0 W' v xs :=
  ⟨Kd.R_lower hr hs, below_then hb hs hb', Nat.le_trans hs hb'.size⟩
/-- A block of any kind that an own row v is apart from. -/
structure Blk (W : World) (g : Nat) (o : Obj) (v : Value) : Prop where
  h : W.heap[g]? = some o
  n : v.ownBlock ≠ some g
section
variable {W W' w1 : World} {g : Nat} {o : Obj} {v v1 : Value}
theorem Blk.lt (h : Blk W g o v) : g < W.heap.size := (Array.getElem?_eq_some_iff.1 h.h).1
theorem Blk.step (h : Blk W g o v) (hb : Below W.heap.size W W') : Blk W' g o v := ⟨(hb.block g h.lt).trans h.h, h.n⟩
theorem Blk.alloc (h : Blk W g o v) (o' : Obj) : Blk (W.alloc o') g o v := h.step (below_alloc (Below.refl _ _) o')
theorem Blk.drewN (h : Blk W g o v) (n : Nat) : Blk (W.drewN n) g o v := h.step (pw_below_drewN (Below.refl _ _) n)
theorem Blk.app (h : Blk W g o v) (hg : W.grownBy w1 v.ownBlock) (hat : v1.ownBlock = v.ownBlock ∨ ∃ b, v1.ownBlock = some b ∧ W.heap.size ≤ b) : Blk w1 g o v1 := by
  refine ⟨(hg.block g h.lt (fun e => h.n e.symm)).trans h.h, ?_⟩
  rcases hat with e | ⟨b, e, hb⟩
  · rw [e]; exact h.n
  · rw [e]
    have := h.lt
    intro e2
    injection e2 with e2
    omega
end
/-- []byte(s): the run, the block that it makes. -/
theorem conv_bytes (s : ByteArray) (W : World) : (convert 9 22 (.string s)).run Try.prog W = .ok (.slice (some ⟨W.heap.size, 0, none⟩) s.size (grownCap W s.size 0 5)) (Lib.bytesWorld W 5 s) :=
  print_bytes (P := Try.prog) 9 22 5 Try.underlying9 Try.underlying22 Try.underlying5 s W
theorem Own.bytesWorld {α : Type} {d : Kd α} {e B : Nat} {w0 W : World} {v : Value} {xs : List α} (h : Own d e B w0 W v xs) (s : ByteArray) : Own d e B w0 (Lib.bytesWorld W 5 s) v xs := h.step (bytes_below (Below.refl _ _) (Nat.le_refl _) 5 s)
theorem Box.bytesWorld {W : World} {g : Nat} {cs : Array Value} {t : TypeId} {fr : Nat × Nat} {v : Value} (h : Box W g cs t fr v) (s : ByteArray) : Box (Lib.bytesWorld W 5 s) g cs t fr v := h.step (bytes_below (Below.refl _ _) (Nat.le_refl _) 5 s)
theorem Box.conv {α : Type} {d : Kd α} {e B : Nat} {w0 W : World} {v : Value} {xs : List α} (h : Own d e B w0 W v xs) (s : ByteArray) : Box (Lib.bytesWorld W 5 s) W.heap.size (Lib.bytesCells W 5 s) 5 ((Lib.bytesCells W 5 s).size, (Lib.bytesCells W 5 s).size + 1) v :=
  ⟨Lib.bytesWorld_at_new W 5 s, fun hk => Nat.lt_irrefl _ (h.lt hk)⟩
theorem bytesCells_at (W : World) (s : ByteArray) (j : Nat) (hj : j < s.size) : (Lib.bytesCells W 5 s)[j]? = some (.int .u8 (rd (bytesOf s) j)) := by
  have h := Lib.bytesWorld_cell W 5 s j hj
  rw [cell_of_row _ _ j _ _ _ (Lib.bytesWorld_at_new W 5 s)] at h
  rw [h]
  have h' : j < s.data.toList.length := by rw [data_length]; exact hj
  simp [rd, bytesOf, List.getD_eq_getElem?_getD, List.getElem?_eq_getElem h']
theorem cell_new {w : World} {a : Addr} {v : Value} (h : w.cell? a = some v) (o : Obj) : (w.alloc o).cell? a = some v := pw_cell_below (below_alloc (Below.refl _ _) o) h
/-- 'b[j:]' of bytes that are read: what it is stands behind letters. -/
theorem cut_from (A : Option Addr) (n c : Nat) (l : List Int) (j : Int) (hn : l.length = n) (h0 : 0 ≤ j) (hm : j ≤ n) (hc : n ≤ c) :
    ∃ (A' : Option Addr) (n' c' : Nat), (∀ W : World, (Instr.slice 22 (.slice A n c) (some (.int .i64 j)) none none).run Try.prog W = .ok (.slice A' n' c') W) ∧ n' = n - j.toNat ∧ n' ≤ c' ∧
      (∀ W : World, Kd.C (Kd.int .u8) W A n l → Kd.C (Kd.int .u8) W A' n' (l.drop j.toNat)) := by
  obtain ⟨i0, hi, hzz⟩ := Option.map_eq_some_iff.1 info5
  simp only [Prod.mk.injEq] at hzz
  obtain ⟨A', h1, h2⟩ := print_cut (P := Try.prog) 22 5 .i64 Try.underlying22 hi hzz.2.1 A n c j.toNat (by omega)
  rw [Int.toNat_of_nonneg h0] at h1
  exact ⟨A', n - j.toNat, c - j.toNat, h1, rfl, by omega, fun W hC => Kd.C_of_reads (d := (0 : Int)) (h1 := fun _ => rfl) (h2 W .u8 l hc (Kd.reads_of_C (enc := Value.int .u8) (d := (0 : Int)) (h1 := fun _ => rfl) hC))⟩
/-- 'b[:j]' likewise. -/
theorem cut_to (A : Option Addr) (n c : Nat) (l : List Int) (j : Int) (hn : l.length = n) (h0 : 0 ≤ j) (hm : j ≤ n) (hc : n ≤ c) :
    ∃ (n' : Nat), (∀ W : World, (Instr.slice 22 (.slice A n c) none (some (.int .i64 j)) none).run Try.prog W = .ok (.slice A n' c) W) ∧ n' = j.toNat ∧ n' ≤ c ∧
      (∀ W : World, Kd.C (Kd.int .u8) W A n l → Kd.C (Kd.int .u8) W A n' (l.take j.toNat)) := by
  refine ⟨j.toNat, fun W => ?_, rfl, by omega, fun W hC => ?_⟩
  · have hel : Try.prog.elem 22 = 5 := by simp [Program.elem, Try.underlying22]
    have hu : Try.prog.underlying 22 = some (.slice (Try.prog.elem 22)) := by rw [hel]; exact Try.underlying22
    rw [run_slice_h W 22 A n c hu .i64 j h0 (by omega), hel]
    obtain ⟨i0, hi, hzz⟩ := Option.map_eq_some_iff.1 info5
    simp only [Prod.mk.injEq] at hzz
    simp [sizeOf, typeInfo, hi, hzz.2.1, sliced, Result.andThen]
    intro _
    cases A <;> simp [Addr.add_zero']
  · subst hn
    have := Kd.C_take hC (m := j.toNat) (by omega)
    rwa [show (l.take j.toNat).length = j.toNat by rw [List.length_take]; omega] at this
theorem C_rd {W : World} {A : Option Addr} {n : Nat} {l : List Int} (h : Kd.C (Kd.int .u8) W A n l) (i : Nat) (hi : i < n) : ∃ ad, A = some ad ∧ W.cell? (ad.add i) = some (.int .u8 (rd l i)) := by
  have := Kd.at_int h (i : Int) (by omega) (by omega)
  rwa [Int.toNat_natCast] at this
/-- string(v), v a row of bytes of the call's own. -/
theorem Own.str {B : Nat} {w0 W : World} {A : Option Addr} {n c : Nat} {xs : List Int} (h : Own (Kd.int .u8) 5 B w0 W (.slice A n c) xs) : (convert 22 9 (.slice A n c)).run Try.prog W = .ok (.string (strOfNums xs)) W := by
  obtain ⟨h1, h2, h3⟩ := Kd.R_reads' h.r
  subst h1
  exact Kd.C_string Try.underlying22 Try.underlying5 Try.underlying9 h3
/-- A slice's length, for a loop's measure. -/
def lenOf : Value → Nat
  | .slice _ n _ => n
  | _ => 0
end Go.Proofs.Ytlmcefhpnfoahaa.P
end

section
namespace Go.Proofs.Ytlmcefhpnfoahaa.P
open Go.RowKit Go.Proofs.YtlmcefhpnfoahaaW.PrintWords Go.Proofs.YtlmcefhpnfoahaaW.PrintLast Go.Proofs.YtlmcefhpnfoahaaW.PrintMore
set_option linter.unusedVariables false
set_option linter.unusedSimpArgs false

/-- A number's bytes, seven bits each, the lowest first. -/
def vput : Nat → Int → List Int
  | 0, v => [v]
  | k + 1, v => if v ≥ 128 then (v % 128 + 128) :: vput k (v / 128) else [v]
theorem vput_length : ∀ (k : Nat) (v : Int), (vput k v).length ≤ k + 1 := by
  intro k
  induction k with
  | zero => intro v; simp [vput]
  | succ k ih =>
    intro v
    unfold vput
    have := ih (v / 128)
    split <;> simp <;> omega
theorem or128 (v : Int) (h0 : 0 ≤ v) : bits .or .u8 (v % 256) 128 = v % 128 + 128 := by
  have h : ∀ c : Nat, c < 256 → bits .or .u8 (c : Int) 128 = (c : Int) % 128 + 128 := by decide +kernel
  have h2 := h (v % 256).toNat (by omega)
  rw [Int.toNat_of_nonneg (by omega)] at h2
  rw [h2]
  omega
def varint_Put.f (l0 : List Int) (v : Int) : Option (List Int) := if l0.length ≤ 70368744177664 ∧ 0 ≤ v ∧ v ≤ 18446744073709551615 then some (l0 ++ vput 9 v) else none
set_option maxRecDepth 100000 in
set_option maxHeartbeats 1000000 in
theorem varint_Put.calls (A0 : Option Addr) (c0 : Nat) (l0 : List Int) (a1 : Int) (r : List Int) (w : World) (hr0 : Kd.C (Kd.int .u8) w A0 l0.length l0) (hc0 : l0.length ≤ c0) (h : varint_Put.f l0 a1 = some r) :
    Calls Try.prog 80 #[.slice A0 l0.length c0, .int .u64 a1] w fun e w' => ∃ v0_ : Value, e = .returned v0_ ∧ Kd.R (Kd.int .u8) 5 w' w.heap.size (fun _ => True) v0_ r ∧ Below w.heap.size w w' := by
  unfold varint_Put.f at h
  split at h
  case isFalse => cases h
  rename_i hcond
  obtain ⟨hl, h0, h1⟩ := hcond
  have HF := Aside0.mk (Option.some.inj h)
  clear h
  have HR0 := Aside0.mk hr0
  clear hr0
  go_enter Try.func80, Try.ntmps80
  go_wp2_with (first | (at_builtin; refine (Own.start (Kd.int .u8) 5 w).bytes rfl _ _ HR0.out rfl rfl rfl (by simp; omega) ?_; intro v1 w1 ho hg hat; have HO := Aside0.mk ho; clear ho hg hat))
  go_loopw [1, 5] (fun v1 v5 W => ∃ (k : Nat) (x : Int) (L : List Int), v1 = .int .u64 x ∧ 0 ≤ x ∧ x < 128 ^ (k + 1) ∧ x ≤ 18446744073709551615 ∧ L.length + k ≤ l0.length + 9 ∧ Aside0 (L ++ vput k x = r) ∧ Aside0 (Own (Kd.int .u8) 5 w.heap.size w W v5 L)) (fun v1 _ _ => (intOf v1).toNat)
  case atStart => exact ⟨9, a1, l0, rfl, h0, by omega, h1, by omega, HF, ⟨HO.out.of_cast (by simp)⟩⟩
  case round =>
    clear HO
    obtain ⟨k, x, L, rfl, hx0, hxk, hx1, hL, HE, HO⟩ := hrel
    by_cases hlt : 128 ≤ x
    · have ho := or128 x hx0
      have hg : x ≥ 128 := hlt
      have hLL : L.length + 1 ≤ 140737488355328 := by omega
      go_wp2_with (first
        | (at_builtin; refine HO.out.byte rfl _ _ _ rfl rfl rfl hLL ?_; intro v1 w1 ho hg hat; have HO1 := Aside0.mk ho; clear ho hg hat))
      obtain ⟨j, rfl⟩ : ∃ j, k = j + 1 := by
        rcases k with _ | j
        · simp at hxk; omega
        · exact ⟨j, rfl⟩
      have hE : Aside0 ((L ++ [x % 128 + 128]) ++ vput j (x / 128) = r) := ⟨by
        rw [← HE.out]
        simp [vput, hg]⟩
      have hP : x / 128 < 128 ^ (j + 1) := by
        rw [Int.pow_succ] at hxk
        generalize (128 : Int) ^ (j + 1) = P at hxk
        omega
      go_roundw
      case rel => exact ⟨j, x / 128, L ++ [x % 128 + 128], rfl, by omega, hP, by omega, by simp; omega, hE, HO1⟩
      case measure => simp [intOf]; omega
    · have hvk : vput k x = [x] := by
        rcases k with _ | j
        · rfl
        · unfold vput
          exact if_neg (by omega)
      rw [hvk] at HE
      have hm : x % 256 = x := by omega
      have hg : ¬ x ≥ 128 := hlt
      have hLL : L.length + 1 ≤ 140737488355328 := by omega
      go_wp2_with (first
        | (at_builtin; refine HO.out.byte rfl _ _ _ rfl rfl rfl hLL ?_; intro v1 w1 ho hg hat; have HO1 := Aside0.mk (ho.of_cast HE.out); clear ho hg hat))
      go_ret
      exact ⟨_, rfl, HO1.out.r, HO1.out.b⟩
end Go.Proofs.Ytlmcefhpnfoahaa.P
end

section
namespace Go.Proofs.Ytlmcefhpnfoahaa.P
open Go.RowKit Go.Proofs.YtlmcefhpnfoahaaW.PrintWords Go.Proofs.YtlmcefhpnfoahaaW.PrintLast Go.Proofs.YtlmcefhpnfoahaaW.PrintMore
set_option linter.unusedVariables false
set_option linter.unusedSimpArgs false

/-- The number that bytes begin with, k bytes more at most behind the first: it, how many bytes, the error. -/
def vg : Nat → List Int → Int × Int × Int
  | _, [] => (0, 0, 20)
  | 0, c :: _ => if c = 1 then (1, 1, 0) else (0, 0, 21)
  | k + 1, c :: r => if c < 128 then (if c = 0 ∧ k + 1 ≠ 9 then (0, 0, 21) else (c, 1, 0)) else if (vg k r).2.2 = 0 then (c % 128 + 128 * (vg k r).1, (vg k r).2.1 + 1, 0) else (0, 0, (vg k r).2.2)
def vget (l : List Int) : Int × Int × Int := vg 9 l
theorem pow128 (k : Nat) : (0 : Int) < 128 ^ k := Int.pow_pos (by decide)
theorem vg_err : ∀ (k : Nat) (l : List Int), (vg k l).2.2 ≠ 0 → (vg k l = (0, 0, 20) ∨ vg k l = (0, 0, 21)) := by
  intro k
  induction k with
  | zero =>
    intro l h
    cases l with
    | nil => left; rfl
    | cons c r =>
      unfold vg at h ⊢
      split
      · rename_i hc; rw [if_pos hc] at h; exact absurd rfl h
      · right; rfl
  | succ k ih =>
    intro l h
    cases l with
    | nil => left; rfl
    | cons c r =>
      unfold vg at h ⊢
      by_cases hc : c < 128
      · rw [if_pos hc] at h ⊢
        by_cases h0 : c = 0 ∧ k + 1 ≠ 9
        · rw [if_pos h0]; right; rfl
        · rw [if_neg h0] at h; exact absurd rfl h
      · rw [if_neg hc] at h ⊢
        by_cases he : (vg k r).2.2 = 0
        · rw [if_pos he] at h; exact absurd rfl h
        · rw [if_neg he]
          rcases ih r he with e | e <;> rw [e]
          · left; rfl
          · right; rfl
theorem vput_vg : ∀ (k : Nat) (l : List Int), (∀ x ∈ l, isByte x = true) → (vg k l).2.2 = 0 → k ≤ 9 →
    ∃ r, l = vput k (vg k l).1 ++ r ∧ (vg k l).2.1 = ((vput k (vg k l).1).length : Int) ∧ 0 ≤ (vg k l).1 ∧ (vg k l).1 < 2 * 128 ^ k ∧ (k ≠ 9 → (vg k l).1 ≠ 0) := by
  intro k
  induction k with
  | zero =>
    intro l hb h _
    cases l with
    | nil => simp [vg] at h
    | cons c r =>
      unfold vg at h ⊢
      by_cases hc : c = 1
      · subst hc
        exact ⟨r, by simp [vput], by simp [vput], by simp, by simp, by simp⟩
      · rw [if_neg hc] at h; simp at h
  | succ k ih =>
    intro l hb h h9
    cases l with
    | nil => simp [vg] at h
    | cons c r =>
      have hc0 : 0 ≤ c ∧ c ≤ 255 := by have := hb c (by simp); simpa [isByte] using this
      have hp := pow128 k
      unfold vg at h ⊢
      by_cases hc : c < 128
      · rw [if_pos hc] at h ⊢
        by_cases h0 : c = 0 ∧ k + 1 ≠ 9
        · rw [if_pos h0] at h; simp at h
        · rw [if_neg h0]
          refine ⟨r, ?_, ?_, hc0.1, ?_, ?_⟩
          · unfold vput; rw [if_neg (by simp; omega)]; rfl
          · unfold vput; rw [if_neg (by simp; omega)]; rfl
          · show c < _
            rw [Int.pow_succ]
            omega
          · intro hk e
            exact h0 ⟨e, hk⟩
      · rw [if_neg hc] at h ⊢
        by_cases he : (vg k r).2.2 = 0
        · rw [if_pos he] at h ⊢
          obtain ⟨r', g1, g2, g3, g4, g5⟩ := ih r (fun x hx => hb x (by simp [hx])) he (by omega)
          have g6 := g5 (by omega)
          generalize hV : (vg k r).1 = V at *
          generalize (vg k r).2.1 = n at *
          have e : vput (k + 1) (c % 128 + 128 * V) = c :: vput k V := by
            conv => lhs; unfold vput
            have e1 : (c % 128 + 128 * V) / 128 = V := by omega
            have e2 : (c % 128 + 128 * V) % 128 + 128 = c := by omega
            rw [if_pos (by omega), e1, e2]
          dsimp only
          rw [e]
          refine ⟨r', by rw [List.cons_append, ← g1], by rw [g2]; simp, by omega, ?_, by omega⟩
          rw [Int.pow_succ]
          omega
        · rw [if_neg he] at h
          exact absurd h he
theorem vput_vget (l : List Int) (hb : ∀ x ∈ l, isByte x = true) (h : (vget l).2.2 = 0) :
    ∃ r, l = vput 9 (vget l).1 ++ r ∧ (vget l).2.1 = ((vput 9 (vget l).1).length : Int) ∧ 0 ≤ (vget l).1 ∧ (vget l).1 ≤ 18446744073709551615 := by
  obtain ⟨r, h1, h2, h3, h4, _⟩ := vput_vg 9 l hb h (by decide)
  exact ⟨r, h1, h2, h3, by have : vg 9 l = vget l := rfl; rw [this] at h4; omega⟩
theorem vput_bytes : ∀ (k : Nat) (v : Int), 0 ≤ v → v < 2 * 128 ^ k → ∀ c ∈ vput k v, isByte c = true := by
  intro k
  induction k with
  | zero => intro v h0 h1 c hc; simp [vput] at hc h1; subst hc; simp [isByte]; omega
  | succ k ih =>
    intro v h0 h1 c hc
    unfold vput at hc
    rw [Int.pow_succ] at h1
    by_cases hv : v ≥ 128
    · rw [if_pos hv, List.mem_cons] at hc
      rcases hc with rfl | hc
      · simp [isByte]; omega
      · exact ih (v / 128) (by omega) (by generalize (128 : Int) ^ k = P at *; omega) c hc
    · rw [if_neg hv] at hc
      simp at hc
      subst hc
      simp [isByte]; omega
end Go.Proofs.Ytlmcefhpnfoahaa.P
end

section
namespace Go.Proofs.Ytlmcefhpnfoahaa.P
open Go.RowKit Go.Proofs.YtlmcefhpnfoahaaW.PrintWords Go.Proofs.YtlmcefhpnfoahaaW.PrintLast Go.Proofs.YtlmcefhpnfoahaaW.PrintMore
attribute [local go_sem] max2_int min2_int max_two min_two max_three min_three max_four min_four   -- for this text's walks alone
set_option linter.unusedVariables false
set_option linter.unusedSimpArgs false

mutual
def varint_Get.l0 : Nat → List Int → Int → Int → Option (Int × Int × Int)
  | 0, _, _, _ => none
  | k + 1, x0, x5, x8 => if x8 < 10 then (if x8 = (x0.length : Int) then (some (0, 0, 20)) else (if 0 ≤ x8 then (if x8 < (x0.length : Int) then (if x8 = 9 then (varint_Get.j1 k x0 x5 x8 (rd x0 x8) x8 (decide ((rd x0 x8) > 1))) else (varint_Get.j1 k x0 x5 x8 (rd x0 x8) x8 false)) else (none)) else (none))) else (some (0, 0, 21))
def varint_Get.j1 : Nat → List Int → Int → Int → Int → Int → Bool → Option (Int × Int × Int)
  | 0, _, _, _, _, _, _ => none
  | k + 1, x0, x5, x6, x7, x8, x24 => if x24 = true then (some (0, 0, 21)) else (if 0 ≤ (wrap64 (7 * x6)) then (if x7 < 128 then (if x7 = 0 then (if x6 > 0 then (some (0, 0, 21)) else (some (Go.bits .or .u64 x5 (shl .u64 (IntKind.u64.wrap (Go.bits .and .u8 x7 127)) (wrap64 (7 * x6))), wrap64 (x6 + 1), 0))) else (some (Go.bits .or .u64 x5 (shl .u64 (IntKind.u64.wrap (Go.bits .and .u8 x7 127)) (wrap64 (7 * x6))), wrap64 (x6 + 1), 0))) else (varint_Get.l0 k x0 (Go.bits .or .u64 x5 (shl .u64 (IntKind.u64.wrap (Go.bits .and .u8 x7 127)) (wrap64 (7 * x6)))) (wrap64 (x8 + 1)))) else (none))
end
def varint_Get.f (k : Nat) (l0 : List Int) : Option (Int × Int × Int) := varint_Get.l0 k l0 0 0
theorem varint_Get.mono_l : ∀ k, (∀ y0 y1 y2, LeO (varint_Get.l0 k y0 y1 y2) (varint_Get.l0 (k + 1) y0 y1 y2)) ∧ (∀ y0 y1 y2 y3 y4 y5, LeO (varint_Get.j1 k y0 y1 y2 y3 y4 y5) (varint_Get.j1 (k + 1) y0 y1 y2 y3 y4 y5))
  | 0 => ⟨fun _ _ _ r h => by simp [varint_Get.l0] at h, fun _ _ _ _ _ _ r h => by simp [varint_Get.j1] at h⟩
  | k + 1 => by
    obtain ⟨ih0, ih1⟩ := varint_Get.mono_l k
    refine ⟨?_, ?_⟩
    · intro y0 y1 y2
      unfold varint_Get.l0
      repeat' first
      | (with_reducible exact ih0 _ _ _)
      | (with_reducible exact ih1 _ _ _ _ _ _)
      | (with_reducible exact LeO.refl _)
      | (with_reducible exact LeO.none _)
      | (with_reducible refine LeO.ite ?_ ?_)
      | (with_reducible refine LeO.bind ?_ (fun _ => ?_))
      | exact ih0 _ _ _
      | exact ih1 _ _ _ _ _ _
      | exact LeO.none _
      | refine LeO.ite ?_ ?_
      | refine LeO.bind ?_ (fun _ => ?_)
    · intro y0 y1 y2 y3 y4 y5
      unfold varint_Get.j1
      repeat' first
      | (with_reducible exact ih0 _ _ _)
      | (with_reducible exact ih1 _ _ _ _ _ _)
      | (with_reducible exact LeO.refl _)
      | (with_reducible exact LeO.none _)
      | (with_reducible refine LeO.ite ?_ ?_)
      | (with_reducible refine LeO.bind ?_ (fun _ => ?_))
      | exact ih0 _ _ _
      | exact ih1 _ _ _ _ _ _
      | exact LeO.none _
      | refine LeO.ite ?_ ?_
      | refine LeO.bind ?_ (fun _ => ?_)
theorem varint_Get.mono : ∀ a0 k, LeO (varint_Get.f k a0) (varint_Get.f (k + 1) a0) := by
  intro a0 k
  obtain ⟨ih0, ih1⟩ := varint_Get.mono_l k
  unfold varint_Get.f
  repeat' first
      | (with_reducible exact ih0 _ _ _)
      | (with_reducible exact ih1 _ _ _ _ _ _)
      | (with_reducible exact LeO.refl _)
      | (with_reducible exact LeO.none _)
      | (with_reducible refine LeO.ite ?_ ?_)
      | (with_reducible refine LeO.bind ?_ (fun _ => ?_))
      | exact ih0 _ _ _
      | exact ih1 _ _ _ _ _ _
      | exact LeO.none _
      | refine LeO.ite ?_ ?_
      | refine LeO.bind ?_ (fun _ => ?_)
set_option maxHeartbeats 8000000 in
set_option maxRecDepth 100000 in
theorem varint_Get.calls (k : Nat) (A0 : Option Addr) (c0 : Nat) (l0 : List Int) (r1 : Int) (r2 : Int) (r3 : Int) (w : World) (hr0 : Kd.C (Kd.int .u8) w A0 l0.length l0) (hc0 : l0.length ≤ c0) (h : varint_Get.f k l0 = some (r1, r2, r3)) :
    Calls Try.prog 126 #[.slice A0 l0.length c0] w fun e w' => e = .returned (.tuple #[.int .u64 r1, .int .i64 r2, .int .i64 r3]) ∧ Drawn0 w w' := by
  have HR0 := Aside0.mk hr0
  have HC0 := Aside0.mk hc0
  clear hr0 hc0
  have H : (varint_Get.l0 k l0 0 0) = some (r1, r2, r3) := h
  clear h
  have H' := Aside0.mk H
  clear H
  go_enter Try.func126, Try.ntmps126
  go_wp2
  go_loopg [5, 8] k (fun kq v5 v8 w' => ∃ (x5_1 : Int) (x8_1 : Int), v5 = .int .u64 x5_1 ∧ v8 = .int .i64 x8_1 ∧ Aside0 (varint_Get.l0 kq l0 x5_1 x8_1 = some (r1, r2, r3)) ∧ Aside0 (kq ≤ k) ∧ Drawn0 w w')
  case atStart => exact ⟨(0), (0), (by first | rfl | (simp; done) | (simp [*]; done)), (by first | rfl | (simp; done) | (simp [*]; done)), H', ⟨Nat.le_refl _⟩, by repeat (first | exact Drawn0.refl _ | apply Drawn0.step)⟩
  case round =>
    clear H'
    try clear c1
    obtain ⟨x5_1, x8_1, rfl, rfl, HA, HK1, ⟨m1, rfl⟩⟩ := hrel
    cases gk with
    | zero => exact absurd HA.out (by simp [varint_Get.l0])
    | succ k1 =>
      have H := HA.out
      clear HA
      simp only [varint_Get.l0] at H
      by_cases c2 : x8_1 < 10
      · rw [if_pos c2] at H
        have c2b0 : decide (x8_1 < 10) = true := decide_eq_true c2
        clear c2
        by_cases c3 : x8_1 = (l0.length : Int)
        · rw [if_pos c3] at H
          have c3b0 : (x8_1 == (l0.length : Int)) = true := beq_iff_eq.mpr c3
          have c3b1 : (x8_1 != (l0.length : Int)) = false := bne_eq_false_iff_eq.mpr c3
          clear c3
          simp only [Option.some.injEq, Prod.mk.injEq] at H
          obtain ⟨rfl, rfl, rfl⟩ := H
          go_wp2
          go_ret3
          exact ⟨by first | rfl | (simp; done) | (simp [*]; done), by repeat (first | exact Drawn0.refl _ | apply Drawn0.step)⟩
        · rw [if_neg c3] at H
          have c3b0 : (x8_1 == (l0.length : Int)) = false := beq_eq_false_iff_ne.mpr c3
          have c3b1 : (x8_1 != (l0.length : Int)) = true := bne_iff_ne.mpr c3
          by_cases c4 : 0 ≤ x8_1
          · rw [if_pos c4] at H
            have c4b0 : decide (0 ≤ x8_1) = true := decide_eq_true c4
            clear c4
            by_cases c5 : x8_1 < (l0.length : Int)
            · rw [if_pos c5] at H
              have c5b0 : decide (x8_1 < (l0.length : Int)) = true := decide_eq_true c5
              clear c5
              have HC6 := Aside0.mk H
              clear H
              have p400 : 0 ≤ (x8_1 : Int) := of_decide_eq_true (by first | (with_reducible assumption) | assumption)
              have q400 : x8_1 < (l0.length : Int) := of_decide_eq_true (by first | (with_reducible assumption) | assumption)
              obtain ⟨ad400, e400, hx400_0⟩ := Kd.at_int HR0.out x8_1 p400 q400
              cases e400
              replace p400 := eq_true p400
              replace q400 := eq_true q400
              go_upto_region 8 with (fail)
              go_cut [24] (fun v24 wc => ∃ (kq : Nat) (x24_5 : Bool), v24 = .bool x24_5 ∧ Aside0 (varint_Get.j1 kq l0 x5_1 x8_1 (rd l0 x8_1) x8_1 x24_5 = some (r1, r2, r3)) ∧ Aside0 (kq ≤ k1) ∧ Drawn0 w wc)
              case first =>
                have H := HC6.out
                clear HC6
                by_cases c7 : x8_1 = 9
                · rw [if_pos c7] at H
                  have c7b0 : (x8_1 == 9) = true := beq_iff_eq.mpr c7
                  have c7b1 : (x8_1 != 9) = false := bne_eq_false_iff_eq.mpr c7
                  clear c7
                  (first | rw [c7b0] | (simp only [i64_w, i32_w]; rw [c7b0]) | skip)
                  have H' := Aside0.mk H
                  clear H
                  go_wp2
                  go_meet
                  case rel => exact ⟨_, (decide ((rd l0 x8_1) > 1)), (by first | rfl | (simp; done) | (simp [*]; done)), H', ⟨by have := HK1.out; first | omega | exact Nat.le_refl _⟩, by repeat (first | exact Drawn0.refl _ | apply Drawn0.step)⟩
                · rw [if_neg c7] at H
                  have c7b0 : (x8_1 == 9) = false := beq_eq_false_iff_ne.mpr c7
                  have c7b1 : (x8_1 != 9) = true := bne_iff_ne.mpr c7
                  (first | rw [c7b0] | (simp only [i64_w, i32_w]; rw [c7b0]) | skip)
                  have H' := Aside0.mk H
                  clear H
                  go_wp2
                  go_meet
                  case rel => exact ⟨_, (false), (by first | rfl | (simp; done) | (simp [*]; done)), H', ⟨by have := HK1.out; first | omega | exact Nat.le_refl _⟩, by repeat (first | exact Drawn0.refl _ | apply Drawn0.step)⟩
              case rest =>
                clear HC6
                try clear c1
                try clear c2
                try clear c2b0
                try clear p2
                try clear c3
                try clear c3b0
                try clear c3b1
                try clear c4
                try clear c4b0
                try clear p4
                try clear q4
                try clear hx4
                try clear c5
                try clear c5b0
                try clear c7
                try clear c7b0
                try clear c7b1
                try clear hx400_0
                try clear p400
                try clear q400
                obtain ⟨kq, x24_5, rfl, HA, HJ5, ⟨mc5, rfl⟩⟩ := hcut
                cases kq with
                | zero => exact absurd HA.out (by simp [varint_Get.j1])
                | succ kj5 =>
                  have H := HA.out
                  clear HA
                  simp only [varint_Get.j1] at H
                  by_cases c8 : x24_5 = true
                  · subst c8
                    have H1 : (some (0, 0, 21)) = some (r1, r2, r3) := by rw [if_pos rfl] at H; exact H
                    clear H
                    have H := H1
                    clear H1
                    simp only [Option.some.injEq, Prod.mk.injEq] at H
                    obtain ⟨rfl, rfl, rfl⟩ := H
                    go_wp2
                    go_ret3
                    exact ⟨by first | rfl | (simp; done) | (simp [*]; done), by repeat (first | exact Drawn0.refl _ | apply Drawn0.step)⟩
                  · replace c8 := Bool.eq_false_iff.mpr c8
                    subst c8
                    have H1 : (if 0 ≤ (wrap64 (7 * x8_1)) then (if (rd l0 x8_1) < 128 then (if (rd l0 x8_1) = 0 then (if x8_1 > 0 then (some (0, 0, 21)) else (some (Go.bits .or .u64 x5_1 (shl .u64 (IntKind.u64.wrap (Go.bits .and .u8 (rd l0 x8_1) 127)) (wrap64 (7 * x8_1))), wrap64 (x8_1 + 1), 0))) else (some (Go.bits .or .u64 x5_1 (shl .u64 (IntKind.u64.wrap (Go.bits .and .u8 (rd l0 x8_1) 127)) (wrap64 (7 * x8_1))), wrap64 (x8_1 + 1), 0))) else (varint_Get.l0 kj5 l0 (Go.bits .or .u64 x5_1 (shl .u64 (IntKind.u64.wrap (Go.bits .and .u8 (rd l0 x8_1) 127)) (wrap64 (7 * x8_1)))) (wrap64 (x8_1 + 1)))) else (none)) = some (r1, r2, r3) := by rw [if_neg (show ¬ (false = true) by decide)] at H; exact H
                    clear H
                    have H := H1
                    clear H1
                    obtain ⟨ji9, hji9⟩ : ∃ j_ : Int, (wrap64 (7 * x8_1)) = j_ := ⟨_, rfl⟩
                    replace H : (if 0 ≤ (ji9) then (if (rd l0 x8_1) < 128 then (if (rd l0 x8_1) = 0 then (if x8_1 > 0 then (some (0, 0, 21)) else (some (Go.bits .or .u64 x5_1 (shl .u64 (IntKind.u64.wrap (Go.bits .and .u8 (rd l0 x8_1) 127)) (ji9)), wrap64 (x8_1 + 1), 0))) else (some (Go.bits .or .u64 x5_1 (shl .u64 (IntKind.u64.wrap (Go.bits .and .u8 (rd l0 x8_1) 127)) (ji9)), wrap64 (x8_1 + 1), 0))) else (varint_Get.l0 kj5 l0 (Go.bits .or .u64 x5_1 (shl .u64 (IntKind.u64.wrap (Go.bits .and .u8 (rd l0 x8_1) 127)) (ji9))) (wrap64 (x8_1 + 1)))) else (none)) = some (r1, r2, r3) := by first | (rw [hji9] at H; exact H) | (simp only [hji9] at H ⊢; exact H)
                    have hji9w : (IntKind.i64.wrap (7 * x8_1)) = ji9 := (i64_w _).trans hji9
                    by_cases c10 : 0 ≤ (ji9)
                    · rw [if_pos c10] at H
                      have c10b0 := eq_true c10
                      have c10b1 : decide (0 ≤ (ji9)) = true := decide_eq_true c10
                      clear c10
                      obtain ⟨ji11, hji11⟩ : ∃ j_ : Int, (shl .u64 (IntKind.u64.wrap (Go.bits .and .u8 (rd l0 x8_1) 127)) (ji9)) = j_ := ⟨_, rfl⟩
                      replace H : (if (rd l0 x8_1) < 128 then (if (rd l0 x8_1) = 0 then (if x8_1 > 0 then (some (0, 0, 21)) else (some (Go.bits .or .u64 x5_1 (ji11), wrap64 (x8_1 + 1), 0))) else (some (Go.bits .or .u64 x5_1 (ji11), wrap64 (x8_1 + 1), 0))) else (varint_Get.l0 kj5 l0 (Go.bits .or .u64 x5_1 (ji11)) (wrap64 (x8_1 + 1)))) = some (r1, r2, r3) := by first | (rw [hji11] at H; exact H) | (simp only [hji11] at H ⊢; exact H)
                      have hji11_ : (IntKind.u64.wrap ((IntKind.u64.wrap (Go.bits .and .u8 (rd l0 x8_1) 127)) * 2 ^ min (ji9).toNat 64)) = ji11 := hji11
                      have hji11z : (ji9) ≤ 64 → (IntKind.u64.wrap ((IntKind.u64.wrap (Go.bits .and .u8 (rd l0 x8_1) 127)) * 2 ^ (ji9).toNat)) = ji11 := shl_small hji11
                      by_cases c12 : (rd l0 x8_1) < 128
                      · rw [if_pos c12] at H
                        have c12b0 : decide ((rd l0 x8_1) < 128) = true := decide_eq_true c12
                        clear c12
                        by_cases c13 : (rd l0 x8_1) = 0
                        · rw [if_pos c13] at H
                          have c13b0 : ((rd l0 x8_1) == 0) = true := beq_iff_eq.mpr c13
                          have c13b1 : ((rd l0 x8_1) != 0) = false := bne_eq_false_iff_eq.mpr c13
                          clear c13
                          by_cases c14 : x8_1 > 0
                          · rw [if_pos c14] at H
                            have c14b0 : decide (0 < x8_1) = true := decide_eq_true c14
                            clear c14
                            simp only [Option.some.injEq, Prod.mk.injEq] at H
                            obtain ⟨rfl, rfl, rfl⟩ := H
                            go_wp2
                            go_ret3
                            exact ⟨by first | rfl | (simp; done) | (simp only [← hji9, ← hji11] <;> (first | rfl | simp)) | (simp [*]; done), by repeat (first | exact Drawn0.refl _ | apply Drawn0.step)⟩
                          · rw [if_neg c14] at H
                            have c14b0 : decide (0 < x8_1) = false := decide_eq_false c14
                            clear c14
                            simp only [Option.some.injEq, Prod.mk.injEq] at H
                            obtain ⟨rfl, rfl, rfl⟩ := H
                            go_wp2
                            go_ret3
                            exact ⟨by first | rfl | (simp; done) | (simp only [← hji9, ← hji11] <;> (first | rfl | simp)) | (simp [*]; done), by repeat (first | exact Drawn0.refl _ | apply Drawn0.step)⟩
                        · rw [if_neg c13] at H
                          have c13b0 : ((rd l0 x8_1) == 0) = false := beq_eq_false_iff_ne.mpr c13
                          have c13b1 : ((rd l0 x8_1) != 0) = true := bne_iff_ne.mpr c13
                          simp only [Option.some.injEq, Prod.mk.injEq] at H
                          obtain ⟨rfl, rfl, rfl⟩ := H
                          go_wp2
                          go_ret3
                          exact ⟨by first | rfl | (simp; done) | (simp only [← hji9, ← hji11] <;> (first | rfl | simp)) | (simp [*]; done), by repeat (first | exact Drawn0.refl _ | apply Drawn0.step)⟩
                      · rw [if_neg c12] at H
                        have c12b0 : decide ((rd l0 x8_1) < 128) = false := decide_eq_false c12
                        clear c12
                        have H' := Aside0.mk H
                        clear H
                        go_wp2
                        go_roundg kj5
                        case measure => have := HK1.out; have := HJ5.out; omega
                        case rel => exact ⟨(Go.bits .or .u64 x5_1 (ji11)), (wrap64 (x8_1 + 1)), (by first | rfl | (simp; done) | (simp only [← hji11] <;> (first | rfl | simp)) | (simp [*]; done)), (by first | rfl | (simp; done) | (simp [*]; done)), H', ⟨by have := HK1.out; have := HJ5.out; omega⟩, by repeat (first | exact Drawn0.refl _ | apply Drawn0.step)⟩
                    · rw [if_neg c10] at H
                      exact absurd H (by simp)
            · rw [if_neg c5] at H
              exact absurd H (by simp)
          · rw [if_neg c4] at H
            exact absurd H (by simp)
      · rw [if_neg c2] at H
        have c2b0 : decide (x8_1 < 10) = false := decide_eq_false c2
        clear c2
        simp only [Option.some.injEq, Prod.mk.injEq] at H
        obtain ⟨rfl, rfl, rfl⟩ := H
        go_wp2
        go_ret3
        exact ⟨by first | rfl | (simp; done) | (simp [*]; done), by repeat (first | exact Drawn0.refl _ | apply Drawn0.step)⟩

end Go.Proofs.Ytlmcefhpnfoahaa.P
end

section
namespace Go.Proofs.Ytlmcefhpnfoahaa.P
open Go.RowKit Go.Proofs.YtlmcefhpnfoahaaW.PrintWords Go.Proofs.YtlmcefhpnfoahaaW.PrintLast Go.Proofs.YtlmcefhpnfoahaaW.PrintMore
attribute [local go_sem] max2_int min2_int max_two min_two max_three min_three max_four min_four   -- for this text's walks alone
set_option linter.unusedVariables false
set_option linter.unusedSimpArgs false

def varint_Zag.f (a0 : Int) : Option (Int) := some (Go.bits .xor .i64 (wrap64 (a0 / 2)) (wrap64 (-(wrap64 (Go.bits .and .u64 a0 1)))))
set_option maxHeartbeats 8000000 in
set_option maxRecDepth 100000 in
theorem varint_Zag.calls (a0 : Int) (r : Int) (w : World) (h : varint_Zag.f a0 = some r) :
    Calls Try.prog 127 #[.int .u64 a0] w fun e w' => e = .returned (.int .i64 r) ∧ Drawn0 w w' := by
  have H : (some (Go.bits .xor .i64 (wrap64 (a0 / 2)) (wrap64 (-(wrap64 (Go.bits .and .u64 a0 1)))))) = some r := h
  clear h
  obtain rfl := Option.some.inj H
  go_enter Try.func127, Try.ntmps127
  go_wp2
  go_ret
  exact ⟨by first | rfl | (simp; done) | (simp [*]; done), by repeat (first | exact Drawn0.refl _ | apply Drawn0.step)⟩

end Go.Proofs.Ytlmcefhpnfoahaa.P
end

section
namespace Go.Proofs.Ytlmcefhpnfoahaa.P
open Go.RowKit Go.Proofs.YtlmcefhpnfoahaaW.PrintWords Go.Proofs.YtlmcefhpnfoahaaW.PrintLast Go.Proofs.YtlmcefhpnfoahaaW.PrintMore
set_option linter.unusedVariables false
set_option linter.unusedSimpArgs false

end Go.Proofs.Ytlmcefhpnfoahaa.P
end

section
namespace Go.Proofs.Ytlmcefhpnfoahaa.P
open Go.RowKit Go.Proofs.YtlmcefhpnfoahaaW.PrintWords Go.Proofs.YtlmcefhpnfoahaaW.PrintLast Go.Proofs.YtlmcefhpnfoahaaW.PrintMore
attribute [local go_sem] max2_int min2_int max_two min_two max_three min_three max_four min_four   -- for this text's walks alone
set_option linter.unusedVariables false
set_option linter.unusedSimpArgs false

def varint_Zig.f (a0 : Int) : Option (Int) := some (Go.bits .xor .u64 (IntKind.u64.wrap ((IntKind.u64.wrap (a0)) * 2)) (IntKind.u64.wrap (a0 / 9223372036854775808)))
set_option maxHeartbeats 8000000 in
set_option maxRecDepth 100000 in
theorem varint_Zig.calls (a0 : Int) (r : Int) (w : World) (h : varint_Zig.f a0 = some r) :
    Calls Try.prog 124 #[.int .i64 a0] w fun e w' => e = .returned (.int .u64 r) ∧ Drawn0 w w' := by
  have H : (some (Go.bits .xor .u64 (IntKind.u64.wrap ((IntKind.u64.wrap (a0)) * 2)) (IntKind.u64.wrap (a0 / 9223372036854775808)))) = some r := h
  clear h
  obtain rfl := Option.some.inj H
  go_enter Try.func124, Try.ntmps124
  go_wp2
  go_ret
  exact ⟨by first | rfl | (simp; done) | (simp [*]; done), by repeat (first | exact Drawn0.refl _ | apply Drawn0.step)⟩

end Go.Proofs.Ytlmcefhpnfoahaa.P
end

section
namespace Go.Proofs.Ytlmcefhpnfoahaa.P
open Go.RowKit Go.Proofs.YtlmcefhpnfoahaaW.PrintWords Go.Proofs.YtlmcefhpnfoahaaW.PrintLast Go.Proofs.YtlmcefhpnfoahaaW.PrintMore
set_option linter.unusedVariables false
set_option linter.unusedSimpArgs false

end Go.Proofs.Ytlmcefhpnfoahaa.P
end

section
namespace Go.Proofs.Ytlmcefhpnfoahaa.P
open Go.RowKit Go.Proofs.YtlmcefhpnfoahaaW.PrintWords Go.Proofs.YtlmcefhpnfoahaaW.PrintLast Go.Proofs.YtlmcefhpnfoahaaW.PrintMore
set_option linter.unusedVariables false
set_option linter.unusedSimpArgs false

/-- append(v, text...), v a row of the call's own, as one step of a region. -/
theorem str_step {ops : Array Oper} {o : Oper} {a : Act} {W w0 : World} {Kc : Act → World → Prop} {Q : Exit → Act → World → Prop} {B : Nat} {N : Option Tmp} {v : Value} {xs : List Int} (hw : Region.wanted o (yielded ops a.tmps) = true) (hN : o.dst = N) (s x : Operand)
    (ho : o.op = .call { callee := .builtin .append, args := #[s, x], argTypes := #[22, 9] }) (y : ByteArray) (hs : a.eval s = v) (hx : a.eval x = .string y) (hO : Own (Kd.int .u8) 5 B w0 W v xs) (hl : xs.length + y.size ≤ 140737488355328)
    (h : ∀ v1 w1, Own (Kd.int .u8) 5 B w0 w1 v1 (xs ++ bytesOf y) → Kc (a.put N v1) w1) :
    if Region.wanted o (yielded ops a.tmps) = true then Oper.wp Try.prog o a W Kc Q else Kc (a.put N undef) W := by
  subst hN
  obtain ⟨i0, hi, hzz⟩ := Option.map_eq_some_iff.1 info5
  simp only [Prod.mk.injEq] at hzz
  obtain ⟨hz0, hz1, hz2⟩ := hzz
  have HO := Kd.own_of_R hO.r
  obtain ⟨v1, w1, hr, hown, hg, _⟩ := Lib.run_append_own_string (P := Try.prog) W B 22 9 o.type 5 i0 Try.underlying22 Try.underlying9 hi hz0 hz1 hz2 v xs.length _ HO y (by simp only [maxLen]; omega) hl hO.s
  have hl2 : (xs ++ bytesOf y).length = xs.length + y.size := by rw [List.length_append, bytesOf_length]
  have hc : encs (fun n : Int => Value.int .u8 n) (xs ++ bytesOf y) = encs (fun n : Int => Value.int .u8 n) xs ++ Lib.strCells y := by
    simp [encs, bytesOf, Lib.strCells]
  have hb := hO.b.grown hg hO.s (own_base HO)
  refine event_step hw (v := v1) (w1 := w1) ?_ (h v1 w1 ⟨Kd.R_of_own (by rw [hl2, hc]; exact hown) (fun _ _ => trivial), hb, by have := hg.size; have := hO.s; omega⟩)
  unfold execOp
  simp only [ho, resolve, invoke, builtin, Sem.run_bind, Sem.run_pure, Result.andThen_ok, List.map_toArray, List.map_cons, List.map_nil, hs, hx, hr]
end Go.Proofs.Ytlmcefhpnfoahaa.P
end

section
namespace Go.Proofs.Ytlmcefhpnfoahaa.P
open Go.RowKit Go.Proofs.YtlmcefhpnfoahaaW.PrintWords Go.Proofs.YtlmcefhpnfoahaaW.PrintLast Go.Proofs.YtlmcefhpnfoahaaW.PrintMore
open Go.ChangeMaps (setBlock)
section
variable {P : Program}
theorem isKey_int (q : IntKind) (k : Int) : MapKept.IsKey (.int q) (.int q k) := by simp [MapKept.IsKey]
theorem map_store_new (w : World) {t kt et : TypeId} {q : IntKind} (ht : P.underlying t = some (.map kt et)) (hk : P.underlying kt = some (.int q)) (es : Array MapEntry) (clock : Nat) (k : Int) (v : Value)
    (hn : Instr.findNow (.int q) (.int q k) es.toList 0 = some none) :
    (Instr.mapUpdate t (.map (some w.heap.size)) (.int q k) v).run P (w.alloc (.map es clock)) = .ok () (w.alloc (.map (es.push ⟨.int q k, v, clock⟩) (clock + 1))) := by
  have hb : (w.alloc (.map es clock)).heap[w.heap.size]? = some (.map es clock) := heap_alloc_new w _
  have e : setBlock (w.alloc (.map es clock)) w.heap.size (.map (es.push ⟨.int q k, v, clock⟩) (clock + 1)) = w.alloc (.map (es.push ⟨.int q k, v, clock⟩) (clock + 1)) := by
    simp [setBlock, World.alloc, -World.alloc_eq]
    apply Array.ext_getElem?
    intro i
    rw [Array.getElem?_setIfInBounds, Array.getElem?_push, Array.getElem?_push]
    by_cases hi : w.heap.size = i
    · subst hi; simp
    · rw [if_neg hi, if_neg (fun e => hi e.symm), if_neg (fun e => hi e.symm)]
  rw [← e]
  simp [Instr.mapUpdate, run_underlying ht, MapKept.run_getObj_map hb, MapKept.run_checkKey hk (isKey_int q k), MapKept.run_findKey hk hn, MapKept.run_setObj_map _ hb, Result.andThen, setBlock]
theorem map_look (w : World) {t kt et : TypeId} {q : IntKind} (ht : P.underlying t = some (.map kt et)) (hk : P.underlying kt = some (.int q)) {b : Nat} {es : Array MapEntry} {clock : Nat} (hb : w.heap[b]? = some (.map es clock)) (k : Int) {i : Nat} {v : Value}
    (hn : Instr.findNow (.int q) (.int q k) es.toList 0 = some (some (i, v))) :
    (Instr.lookup t (.map (some b)) (.int q k) true).run P w = .ok (.tuple #[v, .bool true]) w ∧ (Instr.lookup t (.map (some b)) (.int q k) false).run P w = .ok v w := by
  constructor <;> simp [Instr.lookup, run_underlying ht, MapKept.run_getObj_map hb, MapKept.run_checkKey hk (isKey_int q k), MapKept.run_findKey hk hn, Result.andThen]
theorem map_look_no (w : World) {t kt et : TypeId} {q : IntKind} (ht : P.underlying t = some (.map kt et)) (hk : P.underlying kt = some (.int q)) {b : Nat} {es : Array MapEntry} {clock : Nat} (hb : w.heap[b]? = some (.map es clock)) (k : Int) {z : Value}
    (hz : (zeroValue et).run P w = .ok z w) (hn : Instr.findNow (.int q) (.int q k) es.toList 0 = some none) :
    (Instr.lookup t (.map (some b)) (.int q k) true).run P w = .ok (.tuple #[z, .bool false]) w := by
  simp [Instr.lookup, run_underlying ht, MapKept.run_getObj_map hb, MapKept.run_checkKey hk (isKey_int q k), MapKept.run_findKey hk hn, hz, Result.andThen]
end
end Go.Proofs.Ytlmcefhpnfoahaa.P
end

section
namespace Go.Proofs.Ytlmcefhpnfoahaa.P
open Go.RowKit Go.Proofs.YtlmcefhpnfoahaaW.PrintWords Go.Proofs.YtlmcefhpnfoahaaW.PrintLast Go.Proofs.YtlmcefhpnfoahaaW.PrintMore
set_option linter.unusedVariables false
set_option linter.unusedSimpArgs false

end Go.Proofs.Ytlmcefhpnfoahaa.P
end

section
namespace Go.Proofs.Ytlmcefhpnfoahaa.P
open Go.RowKit Go.Proofs.YtlmcefhpnfoahaaW.PrintWords Go.Proofs.YtlmcefhpnfoahaaW.PrintLast Go.Proofs.YtlmcefhpnfoahaaW.PrintMore
attribute [local go_sem] max2_int min2_int max_two min_two max_three min_three max_four min_four   -- for this text's walks alone
set_option linter.unusedVariables false
set_option linter.unusedSimpArgs false

end Go.Proofs.Ytlmcefhpnfoahaa.P
end

section
namespace Go.Proofs.Ytlmcefhpnfoahaa.P
open Go.RowKit Go.Proofs.YtlmcefhpnfoahaaW.PrintWords Go.Proofs.YtlmcefhpnfoahaaW.PrintLast Go.Proofs.YtlmcefhpnfoahaaW.PrintMore
attribute [local go_sem] max2_int min2_int max_two min_two max_three min_three max_four min_four   -- for this text's walks alone
set_option linter.unusedVariables false
set_option linter.unusedSimpArgs false

theorem eqA39 (d : Nat) (w : World) (x0 y0 : Int) (x1 y1 : Int) (x2 y2 : ByteArray) :
    (Op.equalIn (d + 2) 39 (.agg #[.int .u8 x0, .int .i64 x1, .string x2]) (.agg #[.int .u8 y0, .int .i64 y1, .string y2])).run Try.prog w = .ok (x0 == y0 && (x1 == y1 && (x2.toList == y2.toList))) w := by
  refine eqA_of Try.underlying39 (by kernel_rfl) ?_
  refine eqf_cons (by rfl) (by go_simp; rfl) (by go_simp; rfl) (by go_simp) ?_
  refine eqf_cons (by rfl) (by go_simp; rfl) (by go_simp; rfl) (by go_simp) ?_
  exact eqf_last (by rfl) (by go_simp; rfl) (by go_simp; rfl) (by go_simp)
end Go.Proofs.Ytlmcefhpnfoahaa.P
end

section
namespace Go.Proofs.Ytlmcefhpnfoahaa.P
open Go.RowKit Go.Proofs.YtlmcefhpnfoahaaW.PrintWords Go.Proofs.YtlmcefhpnfoahaaW.PrintLast Go.Proofs.YtlmcefhpnfoahaaW.PrintMore
attribute [local go_sem] max2_int min2_int max_two min_two max_three min_three max_four min_four   -- for this text's walks alone
set_option linter.unusedVariables false
set_option linter.unusedSimpArgs false

attribute [local go_sem high] eqA39
def key_may.f (a0_0 : Int) (a0_1 : Int) (a0_2 : ByteArray) : Option (Bool) := if a0_0 = 0 then (some (a0_0 == 0 && (a0_1 == 0 && (a0_2.toList == ([] : List UInt8))))) else (if a0_0 = 1 then (if a0_1 = 0 then (some (a0_2.toList == ([] : List UInt8))) else (if a0_1 = 1 then (some (a0_2.toList == ([] : List UInt8))) else (some false))) else (if a0_0 = 2 then (some (a0_2.toList == ([] : List UInt8))) else (if a0_0 = 3 then (some (a0_1 == 0)) else (some false))))
set_option maxHeartbeats 8000000 in
set_option maxRecDepth 100000 in
theorem key_may.calls (a0_0 : Int) (a0_1 : Int) (a0_2 : ByteArray) (r : Bool) (w : World) (h : key_may.f a0_0 a0_1 a0_2 = some r) :
    Calls Try.prog 73 #[.agg #[.int .u8 a0_0, .int .i64 a0_1, .string a0_2]] w fun e w' => e = .returned (.bool r) ∧ Below w.heap.size w w' := by
  have hu39 := Try.underlying39
  have HB := Aside0.mk (Below.refl w.heap.size w)
  have H : (if a0_0 = 0 then (some (a0_0 == 0 && (a0_1 == 0 && (a0_2.toList == ([] : List UInt8))))) else (if a0_0 = 1 then (if a0_1 = 0 then (some (a0_2.toList == ([] : List UInt8))) else (if a0_1 = 1 then (some (a0_2.toList == ([] : List UInt8))) else (some false))) else (if a0_0 = 2 then (some (a0_2.toList == ([] : List UInt8))) else (if a0_0 = 3 then (some (a0_1 == 0)) else (some false))))) = some r := h
  clear h
  by_cases c2 : a0_0 = 0
  · rw [if_pos c2] at H
    have c2b0 : (a0_0 == 0) = true := beq_iff_eq.mpr c2
    have c2b1 : (a0_0 != 0) = false := bne_eq_false_iff_eq.mpr c2
    clear c2
    obtain rfl := Option.some.inj H
    go_enter Try.func73, Try.ntmps73
    go_wp2_with (first | ((with_reducible refine gate_dst (N := 1) rfl ?_); refine box_event ?hg (N := 1) ?hd (cs := #[.int .u8 a0_0, .int .i64 a0_1, .string a0_2]) (t := 39) ?hr ?_; (case hd => rfl); (case hg => rfl); (case hr => first | (go_simp; done) | (go_simp; rfl)); intro gb102 hg w3 hbox hb; have n0_ := Aside0.mk (below_step (by repeat (first | (with_reducible first | exact HB.out | apply below_alloc | apply pw_below_drewN | apply below_drew1) | exact HB.out)) hb); have n1_ := Aside0.mk (hbox); have n2_ := Aside0.mk ((by rw [hg]; exact (below_size (by repeat (first | (with_reducible first | exact HB.out | apply below_alloc | apply pw_below_drewN | apply below_drew1) | exact HB.out))) : w.heap.size ≤ gb102)); have n3_ := Aside0.mk ((by rw [hg]; exact (below_size (by repeat (first | (with_reducible first | exact HB.out | apply below_alloc | apply pw_below_drewN | apply below_drew1) | exact HB.out))) : w.heap.size ≤ gb102)); clear HB; have HB := n0_; have BK102 := n1_; have GW102 := n2_; have GE102 := n3_; clear n0_ n1_ n2_ n3_; clear hb hbox hg; have hcz4_0 : w3.cell? ⟨gb102, 0, none⟩ = some (.int .u8 a0_0) := (blk_cell BK102.out 0).trans rfl; have hcz4_1 : w3.cell? ⟨gb102, 1, none⟩ = some (.int .i64 a0_1) := (blk_cell BK102.out 1).trans rfl; have hcz4_2 : w3.cell? ⟨gb102, 2, none⟩ = some (.string a0_2) := (blk_cell BK102.out 2).trans rfl; have hfz4_0 := blk_frozen BK102.out 0; have hfz4_1 := blk_frozen BK102.out 1; have hfz4_2 := blk_frozen BK102.out 2))
    go_ret
    exact ⟨by first | rfl | (simp [errW_none, errW_some] <;> rfl) | (simp [*, errW_none, errW_some] <;> rfl), by repeat (first | (with_reducible first | exact HB.out | apply below_alloc | apply pw_below_drewN | apply below_drew1 | refine below_set ?_ GE102.out) | exact HB.out)⟩
  · rw [if_neg c2] at H
    have c2b0 : (a0_0 == 0) = false := beq_eq_false_iff_ne.mpr c2
    have c2b1 : (a0_0 != 0) = true := bne_iff_ne.mpr c2
    by_cases c5 : a0_0 = 1
    · rw [if_pos c5] at H
      have c5b0 : (a0_0 == 1) = true := beq_iff_eq.mpr c5
      have c5b1 : (a0_0 != 1) = false := bne_eq_false_iff_eq.mpr c5
      clear c5
      by_cases c6 : a0_1 = 0
      · rw [if_pos c6] at H
        have c6b0 : (a0_1 == 0) = true := beq_iff_eq.mpr c6
        have c6b1 : (a0_1 != 0) = false := bne_eq_false_iff_eq.mpr c6
        clear c6
        obtain rfl := Option.some.inj H
        go_enter Try.func73, Try.ntmps73
        go_wp2_with (first | ((with_reducible refine gate_dst (N := 1) rfl ?_); refine box_event ?hg (N := 1) ?hd (cs := #[.int .u8 a0_0, .int .i64 a0_1, .string a0_2]) (t := 39) ?hr ?_; (case hd => rfl); (case hg => rfl); (case hr => first | (go_simp; done) | (go_simp; rfl)); intro gb102 hg w7 hbox hb; have n0_ := Aside0.mk (below_step (by repeat (first | (with_reducible first | exact HB.out | apply below_alloc | apply pw_below_drewN | apply below_drew1) | exact HB.out)) hb); have n1_ := Aside0.mk (hbox); have n2_ := Aside0.mk ((by rw [hg]; exact (below_size (by repeat (first | (with_reducible first | exact HB.out | apply below_alloc | apply pw_below_drewN | apply below_drew1) | exact HB.out))) : w.heap.size ≤ gb102)); have n3_ := Aside0.mk ((by rw [hg]; exact (below_size (by repeat (first | (with_reducible first | exact HB.out | apply below_alloc | apply pw_below_drewN | apply below_drew1) | exact HB.out))) : w.heap.size ≤ gb102)); clear HB; have HB := n0_; have BK102 := n1_; have GW102 := n2_; have GE102 := n3_; clear n0_ n1_ n2_ n3_; clear hb hbox hg; have hcz8_0 : w7.cell? ⟨gb102, 0, none⟩ = some (.int .u8 a0_0) := (blk_cell BK102.out 0).trans rfl; have hcz8_1 : w7.cell? ⟨gb102, 1, none⟩ = some (.int .i64 a0_1) := (blk_cell BK102.out 1).trans rfl; have hcz8_2 : w7.cell? ⟨gb102, 2, none⟩ = some (.string a0_2) := (blk_cell BK102.out 2).trans rfl; have hfz8_0 := blk_frozen BK102.out 0; have hfz8_1 := blk_frozen BK102.out 1; have hfz8_2 := blk_frozen BK102.out 2))
        go_ret
        exact ⟨by first | rfl | (simp [errW_none, errW_some] <;> rfl) | (simp [*, errW_none, errW_some] <;> rfl), by repeat (first | (with_reducible first | exact HB.out | apply below_alloc | apply pw_below_drewN | apply below_drew1 | refine below_set ?_ GE102.out) | exact HB.out)⟩
      · rw [if_neg c6] at H
        have c6b0 : (a0_1 == 0) = false := beq_eq_false_iff_ne.mpr c6
        have c6b1 : (a0_1 != 0) = true := bne_iff_ne.mpr c6
        by_cases c9 : a0_1 = 1
        · rw [if_pos c9] at H
          have c9b0 : (a0_1 == 1) = true := beq_iff_eq.mpr c9
          have c9b1 : (a0_1 != 1) = false := bne_eq_false_iff_eq.mpr c9
          clear c9
          obtain rfl := Option.some.inj H
          go_enter Try.func73, Try.ntmps73
          go_wp2_with (first | ((with_reducible refine gate_dst (N := 1) rfl ?_); refine box_event ?hg (N := 1) ?hd (cs := #[.int .u8 a0_0, .int .i64 a0_1, .string a0_2]) (t := 39) ?hr ?_; (case hd => rfl); (case hg => rfl); (case hr => first | (go_simp; done) | (go_simp; rfl)); intro gb102 hg w10 hbox hb; have n0_ := Aside0.mk (below_step (by repeat (first | (with_reducible first | exact HB.out | apply below_alloc | apply pw_below_drewN | apply below_drew1) | exact HB.out)) hb); have n1_ := Aside0.mk (hbox); have n2_ := Aside0.mk ((by rw [hg]; exact (below_size (by repeat (first | (with_reducible first | exact HB.out | apply below_alloc | apply pw_below_drewN | apply below_drew1) | exact HB.out))) : w.heap.size ≤ gb102)); have n3_ := Aside0.mk ((by rw [hg]; exact (below_size (by repeat (first | (with_reducible first | exact HB.out | apply below_alloc | apply pw_below_drewN | apply below_drew1) | exact HB.out))) : w.heap.size ≤ gb102)); clear HB; have HB := n0_; have BK102 := n1_; have GW102 := n2_; have GE102 := n3_; clear n0_ n1_ n2_ n3_; clear hb hbox hg; have hcz11_0 : w10.cell? ⟨gb102, 0, none⟩ = some (.int .u8 a0_0) := (blk_cell BK102.out 0).trans rfl; have hcz11_1 : w10.cell? ⟨gb102, 1, none⟩ = some (.int .i64 a0_1) := (blk_cell BK102.out 1).trans rfl; have hcz11_2 : w10.cell? ⟨gb102, 2, none⟩ = some (.string a0_2) := (blk_cell BK102.out 2).trans rfl; have hfz11_0 := blk_frozen BK102.out 0; have hfz11_1 := blk_frozen BK102.out 1; have hfz11_2 := blk_frozen BK102.out 2))
          go_ret
          exact ⟨by first | rfl | (simp [errW_none, errW_some] <;> rfl) | (simp [*, errW_none, errW_some] <;> rfl), by repeat (first | (with_reducible first | exact HB.out | apply below_alloc | apply pw_below_drewN | apply below_drew1 | refine below_set ?_ GE102.out) | exact HB.out)⟩
        · rw [if_neg c9] at H
          have c9b0 : (a0_1 == 1) = false := beq_eq_false_iff_ne.mpr c9
          have c9b1 : (a0_1 != 1) = true := bne_iff_ne.mpr c9
          obtain rfl := Option.some.inj H
          go_enter Try.func73, Try.ntmps73
          go_wp2_with (first | ((with_reducible refine gate_dst (N := 1) rfl ?_); refine box_event ?hg (N := 1) ?hd (cs := #[.int .u8 a0_0, .int .i64 a0_1, .string a0_2]) (t := 39) ?hr ?_; (case hd => rfl); (case hg => rfl); (case hr => first | (go_simp; done) | (go_simp; rfl)); intro gb102 hg w12 hbox hb; have n0_ := Aside0.mk (below_step (by repeat (first | (with_reducible first | exact HB.out | apply below_alloc | apply pw_below_drewN | apply below_drew1) | exact HB.out)) hb); have n1_ := Aside0.mk (hbox); have n2_ := Aside0.mk ((by rw [hg]; exact (below_size (by repeat (first | (with_reducible first | exact HB.out | apply below_alloc | apply pw_below_drewN | apply below_drew1) | exact HB.out))) : w.heap.size ≤ gb102)); have n3_ := Aside0.mk ((by rw [hg]; exact (below_size (by repeat (first | (with_reducible first | exact HB.out | apply below_alloc | apply pw_below_drewN | apply below_drew1) | exact HB.out))) : w.heap.size ≤ gb102)); clear HB; have HB := n0_; have BK102 := n1_; have GW102 := n2_; have GE102 := n3_; clear n0_ n1_ n2_ n3_; clear hb hbox hg; have hcz13_0 : w12.cell? ⟨gb102, 0, none⟩ = some (.int .u8 a0_0) := (blk_cell BK102.out 0).trans rfl; have hcz13_1 : w12.cell? ⟨gb102, 1, none⟩ = some (.int .i64 a0_1) := (blk_cell BK102.out 1).trans rfl; have hcz13_2 : w12.cell? ⟨gb102, 2, none⟩ = some (.string a0_2) := (blk_cell BK102.out 2).trans rfl; have hfz13_0 := blk_frozen BK102.out 0; have hfz13_1 := blk_frozen BK102.out 1; have hfz13_2 := blk_frozen BK102.out 2))
          go_ret
          exact ⟨by first | rfl | (simp [errW_none, errW_some] <;> rfl) | (simp [*, errW_none, errW_some] <;> rfl), by repeat (first | (with_reducible first | exact HB.out | apply below_alloc | apply pw_below_drewN | apply below_drew1 | refine below_set ?_ GE102.out) | exact HB.out)⟩
    · rw [if_neg c5] at H
      have c5b0 : (a0_0 == 1) = false := beq_eq_false_iff_ne.mpr c5
      have c5b1 : (a0_0 != 1) = true := bne_iff_ne.mpr c5
      by_cases c14 : a0_0 = 2
      · rw [if_pos c14] at H
        have c14b0 : (a0_0 == 2) = true := beq_iff_eq.mpr c14
        have c14b1 : (a0_0 != 2) = false := bne_eq_false_iff_eq.mpr c14
        clear c14
        obtain rfl := Option.some.inj H
        go_enter Try.func73, Try.ntmps73
        go_wp2_with (first | ((with_reducible refine gate_dst (N := 1) rfl ?_); refine box_event ?hg (N := 1) ?hd (cs := #[.int .u8 a0_0, .int .i64 a0_1, .string a0_2]) (t := 39) ?hr ?_; (case hd => rfl); (case hg => rfl); (case hr => first | (go_simp; done) | (go_simp; rfl)); intro gb102 hg w15 hbox hb; have n0_ := Aside0.mk (below_step (by repeat (first | (with_reducible first | exact HB.out | apply below_alloc | apply pw_below_drewN | apply below_drew1) | exact HB.out)) hb); have n1_ := Aside0.mk (hbox); have n2_ := Aside0.mk ((by rw [hg]; exact (below_size (by repeat (first | (with_reducible first | exact HB.out | apply below_alloc | apply pw_below_drewN | apply below_drew1) | exact HB.out))) : w.heap.size ≤ gb102)); have n3_ := Aside0.mk ((by rw [hg]; exact (below_size (by repeat (first | (with_reducible first | exact HB.out | apply below_alloc | apply pw_below_drewN | apply below_drew1) | exact HB.out))) : w.heap.size ≤ gb102)); clear HB; have HB := n0_; have BK102 := n1_; have GW102 := n2_; have GE102 := n3_; clear n0_ n1_ n2_ n3_; clear hb hbox hg; have hcz16_0 : w15.cell? ⟨gb102, 0, none⟩ = some (.int .u8 a0_0) := (blk_cell BK102.out 0).trans rfl; have hcz16_1 : w15.cell? ⟨gb102, 1, none⟩ = some (.int .i64 a0_1) := (blk_cell BK102.out 1).trans rfl; have hcz16_2 : w15.cell? ⟨gb102, 2, none⟩ = some (.string a0_2) := (blk_cell BK102.out 2).trans rfl; have hfz16_0 := blk_frozen BK102.out 0; have hfz16_1 := blk_frozen BK102.out 1; have hfz16_2 := blk_frozen BK102.out 2))
        go_ret
        exact ⟨by first | rfl | (simp [errW_none, errW_some] <;> rfl) | (simp [*, errW_none, errW_some] <;> rfl), by repeat (first | (with_reducible first | exact HB.out | apply below_alloc | apply pw_below_drewN | apply below_drew1 | refine below_set ?_ GE102.out) | exact HB.out)⟩
      · rw [if_neg c14] at H
        have c14b0 : (a0_0 == 2) = false := beq_eq_false_iff_ne.mpr c14
        have c14b1 : (a0_0 != 2) = true := bne_iff_ne.mpr c14
        by_cases c17 : a0_0 = 3
        · rw [if_pos c17] at H
          have c17b0 : (a0_0 == 3) = true := beq_iff_eq.mpr c17
          have c17b1 : (a0_0 != 3) = false := bne_eq_false_iff_eq.mpr c17
          clear c17
          obtain rfl := Option.some.inj H
          go_enter Try.func73, Try.ntmps73
          go_wp2_with (first | ((with_reducible refine gate_dst (N := 1) rfl ?_); refine box_event ?hg (N := 1) ?hd (cs := #[.int .u8 a0_0, .int .i64 a0_1, .string a0_2]) (t := 39) ?hr ?_; (case hd => rfl); (case hg => rfl); (case hr => first | (go_simp; done) | (go_simp; rfl)); intro gb102 hg w18 hbox hb; have n0_ := Aside0.mk (below_step (by repeat (first | (with_reducible first | exact HB.out | apply below_alloc | apply pw_below_drewN | apply below_drew1) | exact HB.out)) hb); have n1_ := Aside0.mk (hbox); have n2_ := Aside0.mk ((by rw [hg]; exact (below_size (by repeat (first | (with_reducible first | exact HB.out | apply below_alloc | apply pw_below_drewN | apply below_drew1) | exact HB.out))) : w.heap.size ≤ gb102)); have n3_ := Aside0.mk ((by rw [hg]; exact (below_size (by repeat (first | (with_reducible first | exact HB.out | apply below_alloc | apply pw_below_drewN | apply below_drew1) | exact HB.out))) : w.heap.size ≤ gb102)); clear HB; have HB := n0_; have BK102 := n1_; have GW102 := n2_; have GE102 := n3_; clear n0_ n1_ n2_ n3_; clear hb hbox hg; have hcz19_0 : w18.cell? ⟨gb102, 0, none⟩ = some (.int .u8 a0_0) := (blk_cell BK102.out 0).trans rfl; have hcz19_1 : w18.cell? ⟨gb102, 1, none⟩ = some (.int .i64 a0_1) := (blk_cell BK102.out 1).trans rfl; have hcz19_2 : w18.cell? ⟨gb102, 2, none⟩ = some (.string a0_2) := (blk_cell BK102.out 2).trans rfl; have hfz19_0 := blk_frozen BK102.out 0; have hfz19_1 := blk_frozen BK102.out 1; have hfz19_2 := blk_frozen BK102.out 2))
          go_ret
          exact ⟨by first | rfl | (simp [errW_none, errW_some] <;> rfl) | (simp [*, errW_none, errW_some] <;> rfl), by repeat (first | (with_reducible first | exact HB.out | apply below_alloc | apply pw_below_drewN | apply below_drew1 | refine below_set ?_ GE102.out) | exact HB.out)⟩
        · rw [if_neg c17] at H
          have c17b0 : (a0_0 == 3) = false := beq_eq_false_iff_ne.mpr c17
          have c17b1 : (a0_0 != 3) = true := bne_iff_ne.mpr c17
          obtain rfl := Option.some.inj H
          go_enter Try.func73, Try.ntmps73
          go_wp2_with (first | ((with_reducible refine gate_dst (N := 1) rfl ?_); refine box_event ?hg (N := 1) ?hd (cs := #[.int .u8 a0_0, .int .i64 a0_1, .string a0_2]) (t := 39) ?hr ?_; (case hd => rfl); (case hg => rfl); (case hr => first | (go_simp; done) | (go_simp; rfl)); intro gb102 hg w20 hbox hb; have n0_ := Aside0.mk (below_step (by repeat (first | (with_reducible first | exact HB.out | apply below_alloc | apply pw_below_drewN | apply below_drew1) | exact HB.out)) hb); have n1_ := Aside0.mk (hbox); have n2_ := Aside0.mk ((by rw [hg]; exact (below_size (by repeat (first | (with_reducible first | exact HB.out | apply below_alloc | apply pw_below_drewN | apply below_drew1) | exact HB.out))) : w.heap.size ≤ gb102)); have n3_ := Aside0.mk ((by rw [hg]; exact (below_size (by repeat (first | (with_reducible first | exact HB.out | apply below_alloc | apply pw_below_drewN | apply below_drew1) | exact HB.out))) : w.heap.size ≤ gb102)); clear HB; have HB := n0_; have BK102 := n1_; have GW102 := n2_; have GE102 := n3_; clear n0_ n1_ n2_ n3_; clear hb hbox hg; have hcz21_0 : w20.cell? ⟨gb102, 0, none⟩ = some (.int .u8 a0_0) := (blk_cell BK102.out 0).trans rfl; have hcz21_1 : w20.cell? ⟨gb102, 1, none⟩ = some (.int .i64 a0_1) := (blk_cell BK102.out 1).trans rfl; have hcz21_2 : w20.cell? ⟨gb102, 2, none⟩ = some (.string a0_2) := (blk_cell BK102.out 2).trans rfl; have hfz21_0 := blk_frozen BK102.out 0; have hfz21_1 := blk_frozen BK102.out 1; have hfz21_2 := blk_frozen BK102.out 2))
          go_ret
          exact ⟨by first | rfl | (simp [errW_none, errW_some] <;> rfl) | (simp [*, errW_none, errW_some] <;> rfl), by repeat (first | (with_reducible first | exact HB.out | apply below_alloc | apply pw_below_drewN | apply below_drew1 | refine below_set ?_ GE102.out) | exact HB.out)⟩

end Go.Proofs.Ytlmcefhpnfoahaa.P
end

section
namespace Go.Proofs.Ytlmcefhpnfoahaa.P
open Go.RowKit Go.Proofs.YtlmcefhpnfoahaaW.PrintWords Go.Proofs.YtlmcefhpnfoahaaW.PrintLast Go.Proofs.YtlmcefhpnfoahaaW.PrintMore
set_option linter.unusedVariables false
set_option linter.unusedSimpArgs false

theorem may_of (x : S39) : key_may.f x.f0 x.f1 x.f2 = some (mayB x) := by
  unfold key_may.f mayB
  have e : ∀ l : List UInt8, (l == ([] : List UInt8)) = l.isEmpty := by intro l; cases l <;> rfl
  simp only [e]
  by_cases h0 : x.f0 = 0
  · simp [h0]
  · by_cases h1 : x.f0 = 1
    · rw [if_neg h0, if_pos h1]
      by_cases a : x.f1 = 0
      · simp [h1, a]
      · by_cases b : x.f1 = 1
        · simp [h1, b]
        · simp [h1, a, b]
    · by_cases h2 : x.f0 = 2
      · simp [h2]
      · by_cases h3 : x.f0 = 3
        · simp [h3]
        · rw [if_neg h0, if_neg h1, if_neg h2, if_neg h3]
          simp [h0, h1, h2, h3]
theorem may_kind {x : S39} (h : mayB x = true) : x.f0 = 0 ∨ x.f0 = 1 ∨ x.f0 = 2 ∨ x.f0 = 3 := by
  unfold mayB at h
  simp only [Bool.or_eq_true, Bool.and_eq_true, beq_iff_eq] at h
  omega
theorem all_may_no {l : List S39} {k : Nat} (h : k < l.length) (hm : mayB (rd_T39 l k) = false) : l.all mayB = false := by
  rw [List.all_eq_false]
  refine ⟨rd_T39 l k, ?_, by simp [hm]⟩
  unfold rd_T39
  rw [Int.toNat_natCast, List.getD_eq_getElem?_getD, List.getElem?_eq_getElem h]
  exact List.getElem_mem h

set_option maxRecDepth 100000 in
set_option maxHeartbeats 2000000 in
theorem key_Append.calls (A0 : Option Addr) (c0 : Nat) (l0 : List Int) (A1 : Option Addr) (c1 : Nat) (l1 : List S39) (r1 : List Int) (r2 : Int) (w : World) (hr0 : Kd.C (Kd.int .u8) w A0 l0.length l0) (hc0 : l0.length ≤ c0) (hr1 : Kd.C k39 w A1 l1.length l1) (hc1 : l1.length ≤ c1) (h : key_Append.f l0 l1 = some (r1, r2)) :
    Calls Try.prog 30 #[.slice A0 l0.length c0, .slice A1 l1.length c1] w fun e w' => ∃ v0_ : Value, e = .returned (.tuple #[v0_, .int .i64 r2]) ∧ Kd.R (Kd.int .u8) 5 w' w.heap.size (fun _ => True) v0_ r1 ∧ Below w.heap.size w w' := by
  unfold key_Append.f at h
  split at h
  case isFalse => cases h
  rename_i hcond
  obtain ⟨hlen, hnum⟩ := hcond
  have HR0 := Aside0.mk hr0
  have HR1 := Aside0.mk hr1
  have HM1 := Kd.C_max hr1
  have HN := Aside0.mk hnum
  have H := Aside0.mk (Option.some.inj h)
  clear hr0 hr1 hnum h
  go_enter Try.func30, Try.ntmps30
  go_wp2_with (first | (at_builtin; refine (Own.start (Kd.int .u8) 5 w).bytes rfl _ _ HR0.out rfl rfl rfl (by simp; omega) ?_; intro v1 w1 ho hg hat; have HO := Aside0.mk ho; clear ho hg hat))
  go_loopw [6, 16] (fun v6 v16 wr => ∃ k : Nat, k ≤ l1.length ∧ v16 = .int .i64 k ∧ Aside0 (∀ j : Nat, j < k → mayB (rd_T39 l1 j) = true) ∧ Aside0 (Own (Kd.int .u8) 5 w.heap.size w wr v6 (l0 ++ encR (l1.take k)))) (fun _ v16 _ => l1.length - (intOf v16).toNat)
  case atStart => exact ⟨0, Nat.zero_le _, rfl, ⟨fun j hj => absurd hj (Nat.not_lt_zero _)⟩, ⟨HO.out.of_cast (by simp [encR])⟩⟩
  case round =>
    clear HO
    obtain ⟨k, hk, rfl, HA, HO⟩ := hrel
    by_cases hlt : k < l1.length
    · obtain ⟨ad, e, hx0, hx1, hx2⟩ := at_T39 HR1.out k (by omega) (by omega)
      cases e
      have b0 := (HO.out.b.cell (World.block_lt_of_cell? w _ hx0)).trans hx0
      have b1 := (HO.out.b.cell (World.block_lt_of_cell? w _ hx1)).trans hx1
      have b2 := (HO.out.b.cell (World.block_lt_of_cell? w _ hx2)).trans hx2
      clear hx0 hx1 hx2
      rw [Int.toNat_natCast] at b0 b1 b2
      have M := Aside0.mk (may_of (rd_T39 l1 k))
      by_cases hm : mayB (rd_T39 l1 k) = true
      · rw [hm] at M
        have HA1 : Aside0 (∀ j : Nat, j < k + 1 → mayB (rd_T39 l1 j) = true) := ⟨fun j hj => by
          rcases Nat.lt_or_ge j k with h1 | h1
          · exact HA.out j h1
          · obtain rfl : j = k := by omega
            exact hm⟩
        have HE := Aside0.mk (encR_snoc l1 k hlt)
        have LK1 := encR_take_le l1 (k + 1)
        rw [HE.out, List.length_append] at LK1
        have HK := Aside0.mk (may_kind hm)
        have HNk : okNum (rd_T39 l1 k) = true := by
          have := HN.out
          rw [List.all_eq_true] at this
          refine this _ ?_
          unfold rd_T39
          rw [Int.toNat_natCast, List.getD_eq_getElem?_getD, List.getElem?_eq_getElem hlt]
          exact List.getElem_mem hlt
        have HNK := Aside0.mk HNk
        clear HNk hm HA
        generalize rd_T39 l1 k = x at *
        have hL : (l0 ++ encR (l1.take k)).length + (encV x).length ≤ 70368744177664 := by rw [List.length_append]; omega
        have HE2 : Aside0 (l0 ++ encR (l1.take (k + 1)) = (l0 ++ encR (l1.take k)) ++ encV x) := ⟨by rw [HE.out, List.append_assoc]⟩
        clear HE LK1
        generalize l0 ++ encR (l1.take k) = L at *
        rcases HK.out with t | t | t | t
        all_goals clear HK
        · have T0 : (x.f0 == 0) = true := by simp [t]
          have hE : Aside0 (L ++ [1] = l0 ++ encR (l1.take (k + 1))) := ⟨by rw [HE2.out]; simp [encV, t]⟩
          have hl : L.length + 1 ≤ 140737488355328 := by omega
          clear t HE2
          go_wp2_with (first
            | (go_at_call 73; refine (key_may.calls _ _ _ true _ M.out).mono ?_; rintro e w' ⟨rfl, hb'⟩; have BX := Aside0.mk ((Box.made HO.out #[.int .u8 x.f0, .int .i64 x.f1, .string x.f2] 39).step hb'); have q0 := BX.out.cell 0 rfl; have HO1 := Aside0.mk ((HO.out.alloc _).step hb'); clear hb' HO; have HO := HO1; clear HO1)
            | (at_builtin; refine HO.out.byte rfl _ _ _ rfl rfl rfl hl ?_; intro v1 w1 ho hg hat; have HO1 := Aside0.mk ho; clear ho hg hat q0 HO BX; have HO := HO1; clear HO1))
          go_roundw
          case rel => exact ⟨k + 1, by omega, by go_num, HA1, ⟨HO.out.of_cast hE.out⟩⟩
          case measure => simp [intOf]; omega
        · have T0 : (x.f0 == 0) = false := by simp [t]
          have T1 : (x.f0 == 1) = true := by simp [t]
          have hE : Aside0 (L ++ [2, x.f1 % 256] = l0 ++ encR (l1.take (k + 1))) := ⟨by rw [HE2.out]; simp [encV, t]⟩
          have hl : L.length + 2 ≤ 140737488355328 := by omega
          clear t HE2
          go_wp2_with (first
            | (go_at_call 73; refine (key_may.calls _ _ _ true _ M.out).mono ?_; rintro e w' ⟨rfl, hb'⟩; have BX := Aside0.mk ((Box.made HO.out #[.int .u8 x.f0, .int .i64 x.f1, .string x.f2] 39).step hb'); have q0 := BX.out.cell 0 rfl; have q1 := BX.out.cell 1 rfl; have HO1 := Aside0.mk ((HO.out.alloc _).step hb'); clear hb' HO; have HO := HO1; clear HO1)
            | (at_builtin; refine HO.out.byte2 rfl _ _ _ _ rfl rfl rfl hl ?_; intro v1 w1 ho hg hat; have HO1 := Aside0.mk ho; clear ho hg hat q0 q1 HO BX; have HO := HO1; clear HO1))
          go_roundw
          case rel => exact ⟨k + 1, by omega, by go_num, HA1, ⟨HO.out.of_cast hE.out⟩⟩
          case measure => simp [intOf]; omega
        · have T0 : (x.f0 == 0) = false := by simp [t]
          have T1 : (x.f0 == 1) = false := by simp [t]
          have T2 : (x.f0 == 2) = true := by simp [t]
          have hE : Aside0 (L ++ [3] ++ be8 x.f1 = l0 ++ encR (l1.take (k + 1))) := ⟨by rw [HE2.out]; simp [encV, t]⟩
          have hX : Aside0 (bits .xor .u64 (IntKind.u64.wrap x.f1) 9223372036854775808 = x.f1 + 9223372036854775808) := ⟨by
            have h1 := HNK.out
            unfold okNum at h1
            simp only [Bool.and_eq_true, decide_eq_true_eq] at h1
            exact xor_top _ h1.1 h1.2⟩
          have hl : L.length + 1 ≤ 140737488355328 := by omega
          have hl9 : L.length + 9 ≤ 140737488355328 := by omega
          clear t HE2
          go_wp2_with (first
            | (go_at_call 73; refine (key_may.calls _ _ _ true _ M.out).mono ?_; rintro e w' ⟨rfl, hb'⟩; have BX := Aside0.mk ((Box.made HO.out #[.int .u8 x.f0, .int .i64 x.f1, .string x.f2] 39).step hb'); have q0 := BX.out.cell 0 rfl; have HO1 := Aside0.mk ((HO.out.alloc _).step hb'); clear hb' HO; have HO := HO1; clear HO1)
            | (at_builtin; refine HO.out.byte rfl _ _ _ rfl rfl rfl hl ?_; intro v1 w1 ho hg hat; have BX1 := Aside0.mk ((BX.out.alloc _).app hg hat); have HO1 := Aside0.mk ho; clear ho hg hat q0 HO BX; have HO := HO1; have BX := BX1; clear HO1 BX1))
          go_loopw [6, 9] (fun v6 v9 W => ∃ j : Nat, j ≤ 8 ∧ v9 = .int .i64 (56 - 8 * j) ∧ Aside0 (Own (Kd.int .u8) 5 w.heap.size w W v6 (L ++ [3] ++ (be8 x.f1).take j)) ∧ Aside0 (Box W wr.heap.size #[.int .u8 x.f0, .int .i64 x.f1, .string x.f2] 39 (0, 0) v6)) (fun _ v9 _ => (intOf v9 + 8).toNat)
          case atStart => exact ⟨0, by omega, rfl, ⟨HO.out.of_cast (by simp)⟩, BX⟩
          case round =>
            clear HO BX
            obtain ⟨j, hj, rfl, HO, BX⟩ := hrel
            by_cases hj8 : j < 8
            · have q1 := BX.out.cell 1 rfl
              have t8 : (8 * (j : Int)) ≤ 56 := by omega
              have hl2 : (L ++ [3] ++ (be8 x.f1).take j).length + 1 ≤ 140737488355328 := by
                rw [List.length_append, List.length_append, List.length_take, be8_length, List.length_singleton]; omega
              go_wp2_with (at_builtin; refine HO.out.byte rfl _ _ _ rfl rfl rfl hl2 ?_; intro v1 w1 ho hg hat; have BX1 := Aside0.mk ((BX.out.alloc _).app hg hat); have HO1 := Aside0.mk ho; clear ho hg hat q1 HO BX; have HO := HO1; have BX := BX1; clear HO1 BX1)
              go_roundw
              case rel => exact ⟨j + 1, by omega, by go_num, ⟨HO.out.of_cast (by rw [hX.out, be8_take _ _ hj8, List.append_assoc])⟩, BX⟩
              case measure => simp [intOf]; omega
            · obtain rfl : j = 8 := by omega
              go_wp2_with fail
              go_roundw
              case rel => exact ⟨k + 1, by omega, by go_num, HA1, ⟨HO.out.of_cast (by rw [← hE.out]; rfl)⟩⟩
              case measure => simp [intOf]; omega
        · have T0 : (x.f0 == 0) = false := by simp [t]
          have T1 : (x.f0 == 1) = false := by simp [t]
          have T2 : (x.f0 == 2) = false := by simp [t]
          have hE : Aside0 (L ++ [4] ++ esc (bytesOf x.f2) ++ [0, 1] = l0 ++ encR (l1.take (k + 1))) := ⟨by rw [HE2.out]; simp [encV, t]⟩
          have hl : L.length + 1 ≤ 140737488355328 := by omega
          have hle : L.length + 3 + (esc (bytesOf x.f2)).length ≤ 70368744177664 := by
            have : (encV x).length = (esc (bytesOf x.f2)).length + 3 := by simp [encV, t]
            omega
          have hb0 := esc_ge (bytesOf x.f2)
          rw [bytesOf_length] at hb0
          have kc := conv_bytes x.f2
          have HLE := Aside0.mk hle
          have hsz : x.f2.size ≤ 70368744177664 := by omega
          clear t HE2 hb0 hle
          go_wp2_with (first
            | (go_at_call 73; refine (key_may.calls _ _ _ true _ M.out).mono ?_; rintro e w' ⟨rfl, hb'⟩; have BX := Aside0.mk ((Box.made HO.out #[.int .u8 x.f0, .int .i64 x.f1, .string x.f2] 39).step hb'); have q0 := BX.out.cell 0 rfl; have q2 := BX.out.cell 2 rfl; have HO1 := Aside0.mk ((HO.out.alloc _).step hb'); clear hb' HO; have HO := HO1; clear HO1)
            | (at_builtin; refine HO.out.byte rfl _ _ _ rfl rfl rfl hl ?_; intro v1 w1 ho hg hat; have BX1 := Aside0.mk ((BX.out.alloc _).app hg hat); have HO1 := Aside0.mk ho; clear ho hg hat q0 q2 HO BX; have HO := HO1; have BX := BX1; have q2 := BX.out.cell 2 rfl; clear HO1 BX1))
          have BY := Aside0.mk (Box.conv HO.out x.f2)
          have HO1 := Aside0.mk (HO.out.bytesWorld x.f2)
          have HC := Aside0.mk (bytesCells_at w1 x.f2)
          clear HO BX q2
          have HO := HO1
          clear HO1
          generalize Lib.bytesCells w1 5 x.f2 = C at *
          go_loopw [6, 32] (fun v6 v32 W => ∃ j : Nat, j ≤ x.f2.size ∧ v32 = .int .i64 j ∧ Aside0 (Own (Kd.int .u8) 5 w.heap.size w W v6 (L ++ [4] ++ esc ((bytesOf x.f2).take j))) ∧ Aside0 (Box W w1.heap.size C 5 (C.size, C.size + 1) v6)) (fun _ v32 _ => x.f2.size - (intOf v32).toNat)
          case atStart => exact ⟨0, by omega, rfl, ⟨HO.out.of_cast (by simp [esc])⟩, BY⟩
          case round =>
            clear HO BY kc
            obtain ⟨j, hj, rfl, HO, BY⟩ := hrel
            have hl2 : (L ++ [4] ++ esc ((bytesOf x.f2).take j)).length + 3 ≤ 140737488355328 := by
              have := esc_take_le (bytesOf x.f2) j
              have := HLE.out
              rw [List.length_append, List.length_append, List.length_singleton]; omega
            by_cases hjs : j < x.f2.size
            · have q := BY.out.cell j (HC.out j hjs)
              have hs := esc_snoc (bytesOf x.f2) j (by rw [bytesOf_length]; exact hjs)
              by_cases hz : rd (bytesOf x.f2) j = 0
              · have Z : (rd (bytesOf x.f2) j == 0) = true := by simp [hz]
                have hs2 : Aside0 (esc ((bytesOf x.f2).take (j + 1)) = esc ((bytesOf x.f2).take j) ++ [rd (bytesOf x.f2) j, 255]) := ⟨by rw [hs, if_pos hz]⟩
                clear hs hz
                have hl3 : (L ++ [4] ++ esc ((bytesOf x.f2).take j)).length + 1 ≤ 140737488355328 := by omega
                have hl4 : (L ++ [4] ++ esc ((bytesOf x.f2).take j) ++ [rd (bytesOf x.f2) j]).length + 1 ≤ 140737488355328 := by rw [List.length_append, List.length_singleton]; omega
                go_wp2_with (at_builtin; refine HO.out.byte rfl _ _ _ rfl rfl rfl (by first | exact hl3 | exact hl4) ?_; intro v1 w1 ho hg hat; have BX1 := Aside0.mk ((BY.out.alloc _).app hg hat); have HO1 := Aside0.mk ho; clear ho hg hat HO BY; have HO := HO1; have BY := BX1; clear HO1 BX1)
                go_roundw
                case rel => exact ⟨j + 1, by omega, by go_num, ⟨HO.out.of_cast (by rw [hs2.out]; simp)⟩, BY⟩
                case measure => simp [intOf]; omega
              · have Z : (rd (bytesOf x.f2) j == 0) = false := by simp [hz]
                have hs2 : Aside0 (esc ((bytesOf x.f2).take (j + 1)) = esc ((bytesOf x.f2).take j) ++ [rd (bytesOf x.f2) j]) := ⟨by rw [hs, if_neg hz]⟩
                clear hs hz
                have hl3 : (L ++ [4] ++ esc ((bytesOf x.f2).take j)).length + 1 ≤ 140737488355328 := by omega
                go_wp2_with (at_builtin; refine HO.out.byte rfl _ _ _ rfl rfl rfl hl3 ?_; intro v1 w1 ho hg hat; have BX1 := Aside0.mk ((BY.out.alloc _).app hg hat); have HO1 := Aside0.mk ho; clear ho hg hat HO BY; have HO := HO1; have BY := BX1; clear HO1 BX1)
                go_roundw
                case rel => exact ⟨j + 1, by omega, by go_num, ⟨HO.out.of_cast (by rw [hs2.out]; simp)⟩, BY⟩
                case measure => simp [intOf]; omega
            · obtain rfl : j = x.f2.size := by omega
              have hl3 : (L ++ [4] ++ esc ((bytesOf x.f2).take x.f2.size)).length + 2 ≤ 140737488355328 := by omega
              go_wp2_with (at_builtin; refine HO.out.byte2 rfl _ _ _ _ rfl rfl rfl hl3 ?_; intro v1 w1 ho hg hat; have HO1 := Aside0.mk ho; clear ho hg hat HO BY; have HO := HO1; clear HO1)
              go_roundw
              case rel => exact ⟨k + 1, by omega, by go_num, HA1, ⟨HO.out.of_cast (by rw [← hE.out, ← bytesOf_length, List.take_length])⟩⟩
              case measure => simp [intOf]; omega
      · have hm' : mayB (rd_T39 l1 k) = false := by simpa using hm
        rw [hm'] at M
        have hf := H.out
        rw [all_may_no hlt hm'] at hf
        simp only [Bool.false_eq_true, if_false, Prod.mk.injEq] at hf
        obtain ⟨rfl, rfl⟩ := hf
        clear hm hm' HA H
        go_wp2_with (go_at_call 73; refine (key_may.calls _ _ _ false _ M.out).mono ?_; rintro e w' ⟨rfl, hb'⟩; have HO1 := Aside0.mk ((HO.out.alloc _).step hb'); clear hb' HO; have HO := HO1; clear HO1)
        go_ret2
        exact ⟨_, rfl, Kd.R_nil _ _ _ _ _, HO.out.b⟩
    · obtain rfl : k = l1.length := by omega
      have ha : l1.all mayB = true := by
        rw [List.all_eq_true]
        intro y hy
        obtain ⟨j, hj, rfl⟩ := List.getElem_of_mem hy
        have := HA.out j hj
        unfold rd_T39 at this
        rwa [Int.toNat_natCast, List.getD_eq_getElem?_getD, List.getElem?_eq_getElem hj] at this
      have hf := H.out
      rw [if_pos ha] at hf
      simp only [Prod.mk.injEq] at hf
      obtain ⟨rfl, rfl⟩ := hf
      have HO1 := Aside0.mk (HO.out.of_cast (ys := l0 ++ encR l1) (by rw [List.take_length]))
      clear ha HA H HO
      go_wp2_with fail
      go_ret2
      exact ⟨_, rfl, HO1.out.r, HO1.out.b⟩
end Go.Proofs.Ytlmcefhpnfoahaa.P
end

section
namespace Go.Proofs.Ytlmcefhpnfoahaa.P
open Go.RowKit Go.Proofs.YtlmcefhpnfoahaaW.PrintWords Go.Proofs.YtlmcefhpnfoahaaW.PrintLast Go.Proofs.YtlmcefhpnfoahaaW.PrintMore
attribute [local go_sem] max2_int min2_int max_two min_two max_three min_three max_four min_four   -- for this text's walks alone
set_option linter.unusedVariables false
set_option linter.unusedSimpArgs false

def row_may.f (a0 : Int) (a1_0 : Int) (a1_1 : Int) (a1_2 : ByteArray) : Option (Bool) := (key_Append.f ([] : List Int) (([(⟨a1_0, a1_1, a1_2⟩ : S39)] : List (S39)))).bind fun bt385 => (if bt385.2 = 0 then (if a1_0 = 0 then (some true) else (some (a1_0 == a0))) else (some false))
end Go.Proofs.Ytlmcefhpnfoahaa.P
end

section
namespace Go.Proofs.Ytlmcefhpnfoahaa.P
open Go.RowKit Go.ChangeShapes Go.WideShapes Go.Proofs.YtlmcefhpnfoahaaW.PrintWords
set_option linter.unusedVariables false
section
variable {H : Type} {enc : TypeId × Value → H} {w : World} {α : Type}
/-- Whatever reads as data of type e is told by the kind k, and is ok. -/
def Tells (enc : TypeId × Value → H) (w : World) (k : Kd α) (e : TypeId) (ok : α → Prop) : Prop :=
  ∀ fuel cs x, DataW.trod enc Try.prog w 0 (fun _ => true) true fuel e cs = some x → ∃ a, k.K w a cs ∧ ok a
theorem three {l : List Value} (h : l.length = 3) : ∃ a b c, l = [a, b, c] := by
  rcases l with _ | ⟨a, _ | ⟨b, _ | ⟨c, _ | ⟨d, r⟩⟩⟩⟩
  · simp at h
  · simp at h
  · simp at h
  · exact ⟨a, b, c, rfl⟩
  · simp at h
/-- A value that came in. -/
def okVal (x : S39) : Prop := (0 ≤ x.f0 ∧ x.f0 ≤ 255) ∧ (-9223372036854775808 ≤ x.f1 ∧ x.f1 ≤ 9223372036854775807) ∧ x.f2.size ≤ maxLen
theorem tells_val : Tells enc w k39 39 okVal := by
  intro fuel cs x h
  obtain ⟨y0, y1, y2, n, _, hl, h0, h1, h2⟩ := Go.Deep.trod_struct3 Try.underlying39 h
  have hc : Try.prog.cellsOf 39 = 3 := by kernel_rfl
  have c5 : Try.prog.cellsOf 5 = 1 := by kernel_rfl
  have c2 : Try.prog.cellsOf 2 = 1 := by kernel_rfl
  have c9 : Try.prog.cellsOf 9 = 1 := by kernel_rfl
  rw [hc] at hl
  obtain ⟨a, b, c, rfl⟩ := three hl
  simp only [c5, List.drop_zero, List.take] at h0
  simp only [c2, List.drop, List.take] at h1
  simp only [c9, List.drop, List.take] at h2
  obtain ⟨n0, e0, _, w0⟩ := DataW.trod_int Try.underlying5 h0
  obtain ⟨n1, e1, _, w1⟩ := DataW.trod_int Try.underlying2 h1
  obtain ⟨s, e2, _, w2⟩ := DataW.trod_string Try.underlying9 h2
  injection e0 with e0
  injection e1 with e1
  injection e2 with e2
  subst e0 e1 e2
  have u0 : 0 ≤ n0 ∧ n0 ≤ 255 := by
    have hmin : IntKind.u8.min = 0 := rfl
    have hmax : IntKind.u8.max = 255 := rfl
    simp only [Lit.wf, Bool.and_eq_true, decide_eq_true_eq] at w0
    omega
  have u1 : -9223372036854775808 ≤ n1 ∧ n1 ≤ 9223372036854775807 := by
    have hmin : IntKind.i64.min = -9223372036854775808 := rfl
    have hmax : IntKind.i64.max = 9223372036854775807 := rfl
    simp only [Lit.wf, Bool.and_eq_true, decide_eq_true_eq] at w1
    omega
  exact ⟨⟨n0, n1, s⟩, k39_mk w ⟨n0, n1, s⟩, u0, u1, w2⟩
/-- A slice whose elements are told, as a list that is read. -/
theorem open_rows {k : Kd α} {e t : TypeId} {ok : α → Prop} (d : α) (ht : Try.prog.underlying t = some (.slice e)) (hsz : Try.prog.cellsOf e = k.sz) (hk : Tells enc w k e ok) {fuel : Nat} {cs : List Value} {x : DataW H × List MemPlace}
    (h : DataW.trod enc Try.prog w 0 (fun _ => true) true fuel t cs = some x) :
    ∃ (A : Option Addr) (c : Nat) (xs : List α), cs = [.slice A xs.length c] ∧ xs.length ≤ c ∧ Kd.C k w A xs.length xs ∧ xs.length ≤ maxLen ∧ ∀ y ∈ xs, ok y := by
  rcases Go.Deep.open_slice ht h with ⟨rfl, _⟩ | ⟨a, len, cap, m, n, D, Pl, rfl, hb, hl, hm, hmm, _, hi⟩
  · exact ⟨none, 0, [], rfl, Nat.le_refl _, Kd.C_nil _ w, Nat.zero_le _, fun y hy => by cases hy⟩
  · simp only [if_true] at hmm
    have hall : ∀ i, i < len → ∃ y, ok y ∧ ∃ c, c.length = k.sz ∧ k.K w y c ∧ ∀ j u, c[j]? = some u → w.cell? (a.add (i * k.sz + j)) = some u := by
      intro i hil
      obtain ⟨cs', hc, ht'⟩ := hi i (by omega)
      obtain ⟨y, hy, hoky⟩ := hk _ _ _ ht'
      rw [hsz] at hc
      obtain ⟨_, hcl, hat⟩ := World.cells?_some hc
      refine ⟨y, hoky, cs', hcl, hy, fun j u hu => ?_⟩
      have hj : j < k.sz := by
        rw [← hcl]
        exact (List.getElem?_eq_some_iff.1 hu).1
      rw [← Go.Deep.add_add, hat j hj, hu]
    haveI : Inhabited α := ⟨d⟩
    obtain ⟨f, hf⟩ := Go.Deep.choose_lt hall
    have hlen : ((List.range len).map f).length = len := by simp
    refine ⟨some a, cap, (List.range len).map f, by rw [hlen], by rw [hlen]; exact hl, ?_, by rw [hlen]; omega, ?_⟩
    · refine ⟨rfl, by rw [hlen]; unfold maxLen at hm; omega, fun _ => ⟨a, rfl, fun j p hj => ?_⟩⟩
      rw [List.getElem?_map] at hj
      obtain ⟨q, hq, rfl⟩ := Option.map_eq_some_iff.1 hj
      have hjl : j < len := by
        have := (List.getElem?_eq_some_iff.1 hq).1
        simpa using this
      rw [List.getElem?_range hjl] at hq
      injection hq with hq
      subst hq
      obtain ⟨_, c, h1, h2, h3⟩ := hf j hjl
      exact ⟨c, h1, h2, h3⟩
    · intro y hy
      obtain ⟨i, hi', rfl⟩ := List.mem_map.1 hy
      exact (hf i (by simpa using hi')).1
/-- The same of an argument. -/
theorem open_arg {k : Kd α} {e t : TypeId} {ok : α → Prop} (d : α) (ht : Try.prog.underlying t = some (.slice e)) (hsz : Try.prog.cellsOf e = k.sz) (hk : Tells enc w k e ok) {a : Option Addr} {len cap : Nat} {D : DataW H} {ps : List MemPlace}
    (h : DataW.Trod enc Try.prog w 0 (fun _ => true) true t (.slice a len cap) D ps) :
    ∃ xs : List α, len = xs.length ∧ xs.length ≤ cap ∧ Kd.C k w a xs.length xs ∧ xs.length ≤ maxLen ∧ ∀ y ∈ xs, ok y := by
  obtain ⟨fuel, hf⟩ := h
  obtain ⟨A, c, xs, he, hc, hC, hm, hok⟩ := open_rows d ht hsz hk hf
  simp only [Value.cells, List.cons.injEq, and_true] at he
  injection he with h1 h2 h3
  subst h1 h2 h3
  exact ⟨xs, rfl, hc, hC, hm, hok⟩
end
end Go.Proofs.Ytlmcefhpnfoahaa.P
end

section
namespace Go.Proofs.Ytlmcefhpnfoahaa.P
open Go.RowKit Go.Proofs.YtlmcefhpnfoahaaW.PrintWords Go.Proofs.YtlmcefhpnfoahaaW.PrintLast Go.Proofs.YtlmcefhpnfoahaaW.PrintMore
attribute [local go_sem] max2_int min2_int max_two min_two max_three min_three max_four min_four   -- for this text's walks alone
set_option linter.unusedVariables false
set_option linter.unusedSimpArgs false

attribute [local go_sem high] eqA39
end Go.Proofs.Ytlmcefhpnfoahaa.P
end

section
namespace Go.Proofs.Ytlmcefhpnfoahaa.P
open Go.RowKit Go.Proofs.YtlmcefhpnfoahaaW.PrintWords Go.Proofs.YtlmcefhpnfoahaaW.PrintLast Go.Proofs.YtlmcefhpnfoahaaW.PrintMore
attribute [local go_sem] max2_int min2_int max_two min_two max_three min_three max_four min_four   -- for this text's walks alone
set_option linter.unusedVariables false
set_option linter.unusedSimpArgs false

def tidelineref03_May.f (a0_0 : Int) (a0_1 : Int) (a0_2 : ByteArray) : Option (Bool) := if a0_0 > 3 then (some false) else (if a0_0 = 3 then (if a0_0 = 2 then (some true) else (if a0_1 = 0 then (some true) else (if a0_0 = 1 then (some (a0_1 == 1)) else (some false)))) else (if a0_2.toList = ([] : List UInt8) then (if a0_0 = 2 then (some true) else (if a0_1 = 0 then (some true) else (if a0_0 = 1 then (some (a0_1 == 1)) else (some false)))) else (some false)))
set_option maxHeartbeats 8000000 in
set_option maxRecDepth 100000 in
theorem tidelineref03_May.calls (a0_0 : Int) (a0_1 : Int) (a0_2 : ByteArray) (r : Bool) (w : World) (h : tidelineref03_May.f a0_0 a0_1 a0_2 = some r) :
    Calls Try.prog 61 #[.agg #[.int .u8 a0_0, .int .i64 a0_1, .string a0_2]] w fun e w' => e = .returned (.bool r) ∧ Below w.heap.size w w' := by
  have hu39 := Try.underlying39
  have HB := Aside0.mk (Below.refl w.heap.size w)
  have H : (if a0_0 > 3 then (some false) else (if a0_0 = 3 then (if a0_0 = 2 then (some true) else (if a0_1 = 0 then (some true) else (if a0_0 = 1 then (some (a0_1 == 1)) else (some false)))) else (if a0_2.toList = ([] : List UInt8) then (if a0_0 = 2 then (some true) else (if a0_1 = 0 then (some true) else (if a0_0 = 1 then (some (a0_1 == 1)) else (some false)))) else (some false)))) = some r := h
  clear h
  by_cases c2 : a0_0 > 3
  · rw [if_pos c2] at H
    have c2b0 : decide (3 < a0_0) = true := decide_eq_true c2
    clear c2
    obtain rfl := Option.some.inj H
    go_enter Try.func61, Try.ntmps61
    go_wp2_with (first | ((with_reducible refine gate_dst (N := 1) rfl ?_); refine box_event ?hg (N := 1) ?hd (cs := #[.int .u8 a0_0, .int .i64 a0_1, .string a0_2]) (t := 39) ?hr ?_; (case hd => rfl); (case hg => rfl); (case hr => first | (go_simp; done) | (go_simp; rfl)); intro gb103 hg w3 hbox hb; have n0_ := Aside0.mk (below_step (by repeat (first | (with_reducible first | exact HB.out | apply below_alloc | apply pw_below_drewN | apply below_drew1) | exact HB.out)) hb); have n1_ := Aside0.mk (hbox); have n2_ := Aside0.mk ((by rw [hg]; exact (below_size (by repeat (first | (with_reducible first | exact HB.out | apply below_alloc | apply pw_below_drewN | apply below_drew1) | exact HB.out))) : w.heap.size ≤ gb103)); have n3_ := Aside0.mk ((by rw [hg]; exact (below_size (by repeat (first | (with_reducible first | exact HB.out | apply below_alloc | apply pw_below_drewN | apply below_drew1) | exact HB.out))) : w.heap.size ≤ gb103)); clear HB; have HB := n0_; have BK103 := n1_; have GW103 := n2_; have GE103 := n3_; clear n0_ n1_ n2_ n3_; clear hb hbox hg; have hcz4_0 : w3.cell? ⟨gb103, 0, none⟩ = some (.int .u8 a0_0) := (blk_cell BK103.out 0).trans rfl; have hcz4_1 : w3.cell? ⟨gb103, 1, none⟩ = some (.int .i64 a0_1) := (blk_cell BK103.out 1).trans rfl; have hcz4_2 : w3.cell? ⟨gb103, 2, none⟩ = some (.string a0_2) := (blk_cell BK103.out 2).trans rfl; have hfz4_0 := blk_frozen BK103.out 0; have hfz4_1 := blk_frozen BK103.out 1; have hfz4_2 := blk_frozen BK103.out 2))
    go_ret
    exact ⟨by first | rfl | (simp [errW_none, errW_some] <;> rfl) | (simp [*, errW_none, errW_some] <;> rfl), by repeat (first | (with_reducible first | exact HB.out | apply below_alloc | apply pw_below_drewN | apply below_drew1 | refine below_set ?_ GE103.out) | exact HB.out)⟩
  · rw [if_neg c2] at H
    have c2b0 : decide (3 < a0_0) = false := decide_eq_false c2
    clear c2
    by_cases c5 : a0_0 = 3
    · rw [if_pos c5] at H
      have c5b0 : (a0_0 == 3) = true := beq_iff_eq.mpr c5
      have c5b1 : (a0_0 != 3) = false := bne_eq_false_iff_eq.mpr c5
      clear c5
      by_cases c6 : a0_0 = 2
      · rw [if_pos c6] at H
        have c6b0 : (a0_0 == 2) = true := beq_iff_eq.mpr c6
        have c6b1 : (a0_0 != 2) = false := bne_eq_false_iff_eq.mpr c6
        clear c6
        obtain rfl := Option.some.inj H
        go_enter Try.func61, Try.ntmps61
        go_wp2_with (first | ((with_reducible refine gate_dst (N := 1) rfl ?_); refine box_event ?hg (N := 1) ?hd (cs := #[.int .u8 a0_0, .int .i64 a0_1, .string a0_2]) (t := 39) ?hr ?_; (case hd => rfl); (case hg => rfl); (case hr => first | (go_simp; done) | (go_simp; rfl)); intro gb103 hg w7 hbox hb; have n0_ := Aside0.mk (below_step (by repeat (first | (with_reducible first | exact HB.out | apply below_alloc | apply pw_below_drewN | apply below_drew1) | exact HB.out)) hb); have n1_ := Aside0.mk (hbox); have n2_ := Aside0.mk ((by rw [hg]; exact (below_size (by repeat (first | (with_reducible first | exact HB.out | apply below_alloc | apply pw_below_drewN | apply below_drew1) | exact HB.out))) : w.heap.size ≤ gb103)); have n3_ := Aside0.mk ((by rw [hg]; exact (below_size (by repeat (first | (with_reducible first | exact HB.out | apply below_alloc | apply pw_below_drewN | apply below_drew1) | exact HB.out))) : w.heap.size ≤ gb103)); clear HB; have HB := n0_; have BK103 := n1_; have GW103 := n2_; have GE103 := n3_; clear n0_ n1_ n2_ n3_; clear hb hbox hg; have hcz8_0 : w7.cell? ⟨gb103, 0, none⟩ = some (.int .u8 a0_0) := (blk_cell BK103.out 0).trans rfl; have hcz8_1 : w7.cell? ⟨gb103, 1, none⟩ = some (.int .i64 a0_1) := (blk_cell BK103.out 1).trans rfl; have hcz8_2 : w7.cell? ⟨gb103, 2, none⟩ = some (.string a0_2) := (blk_cell BK103.out 2).trans rfl; have hfz8_0 := blk_frozen BK103.out 0; have hfz8_1 := blk_frozen BK103.out 1; have hfz8_2 := blk_frozen BK103.out 2))
        go_ret
        exact ⟨by first | rfl | (simp [errW_none, errW_some] <;> rfl) | (simp [*, errW_none, errW_some] <;> rfl), by repeat (first | (with_reducible first | exact HB.out | apply below_alloc | apply pw_below_drewN | apply below_drew1 | refine below_set ?_ GE103.out) | exact HB.out)⟩
      · rw [if_neg c6] at H
        have c6b0 : (a0_0 == 2) = false := beq_eq_false_iff_ne.mpr c6
        have c6b1 : (a0_0 != 2) = true := bne_iff_ne.mpr c6
        by_cases c9 : a0_1 = 0
        · rw [if_pos c9] at H
          have c9b0 : (a0_1 == 0) = true := beq_iff_eq.mpr c9
          have c9b1 : (a0_1 != 0) = false := bne_eq_false_iff_eq.mpr c9
          clear c9
          obtain rfl := Option.some.inj H
          go_enter Try.func61, Try.ntmps61
          go_wp2_with (first | ((with_reducible refine gate_dst (N := 1) rfl ?_); refine box_event ?hg (N := 1) ?hd (cs := #[.int .u8 a0_0, .int .i64 a0_1, .string a0_2]) (t := 39) ?hr ?_; (case hd => rfl); (case hg => rfl); (case hr => first | (go_simp; done) | (go_simp; rfl)); intro gb103 hg w10 hbox hb; have n0_ := Aside0.mk (below_step (by repeat (first | (with_reducible first | exact HB.out | apply below_alloc | apply pw_below_drewN | apply below_drew1) | exact HB.out)) hb); have n1_ := Aside0.mk (hbox); have n2_ := Aside0.mk ((by rw [hg]; exact (below_size (by repeat (first | (with_reducible first | exact HB.out | apply below_alloc | apply pw_below_drewN | apply below_drew1) | exact HB.out))) : w.heap.size ≤ gb103)); have n3_ := Aside0.mk ((by rw [hg]; exact (below_size (by repeat (first | (with_reducible first | exact HB.out | apply below_alloc | apply pw_below_drewN | apply below_drew1) | exact HB.out))) : w.heap.size ≤ gb103)); clear HB; have HB := n0_; have BK103 := n1_; have GW103 := n2_; have GE103 := n3_; clear n0_ n1_ n2_ n3_; clear hb hbox hg; have hcz11_0 : w10.cell? ⟨gb103, 0, none⟩ = some (.int .u8 a0_0) := (blk_cell BK103.out 0).trans rfl; have hcz11_1 : w10.cell? ⟨gb103, 1, none⟩ = some (.int .i64 a0_1) := (blk_cell BK103.out 1).trans rfl; have hcz11_2 : w10.cell? ⟨gb103, 2, none⟩ = some (.string a0_2) := (blk_cell BK103.out 2).trans rfl; have hfz11_0 := blk_frozen BK103.out 0; have hfz11_1 := blk_frozen BK103.out 1; have hfz11_2 := blk_frozen BK103.out 2))
          go_ret
          exact ⟨by first | rfl | (simp [errW_none, errW_some] <;> rfl) | (simp [*, errW_none, errW_some] <;> rfl), by repeat (first | (with_reducible first | exact HB.out | apply below_alloc | apply pw_below_drewN | apply below_drew1 | refine below_set ?_ GE103.out) | exact HB.out)⟩
        · rw [if_neg c9] at H
          have c9b0 : (a0_1 == 0) = false := beq_eq_false_iff_ne.mpr c9
          have c9b1 : (a0_1 != 0) = true := bne_iff_ne.mpr c9
          by_cases c12 : a0_0 = 1
          · rw [if_pos c12] at H
            have c12b0 : (a0_0 == 1) = true := beq_iff_eq.mpr c12
            have c12b1 : (a0_0 != 1) = false := bne_eq_false_iff_eq.mpr c12
            clear c12
            obtain rfl := Option.some.inj H
            go_enter Try.func61, Try.ntmps61
            go_wp2_with (first | ((with_reducible refine gate_dst (N := 1) rfl ?_); refine box_event ?hg (N := 1) ?hd (cs := #[.int .u8 a0_0, .int .i64 a0_1, .string a0_2]) (t := 39) ?hr ?_; (case hd => rfl); (case hg => rfl); (case hr => first | (go_simp; done) | (go_simp; rfl)); intro gb103 hg w13 hbox hb; have n0_ := Aside0.mk (below_step (by repeat (first | (with_reducible first | exact HB.out | apply below_alloc | apply pw_below_drewN | apply below_drew1) | exact HB.out)) hb); have n1_ := Aside0.mk (hbox); have n2_ := Aside0.mk ((by rw [hg]; exact (below_size (by repeat (first | (with_reducible first | exact HB.out | apply below_alloc | apply pw_below_drewN | apply below_drew1) | exact HB.out))) : w.heap.size ≤ gb103)); have n3_ := Aside0.mk ((by rw [hg]; exact (below_size (by repeat (first | (with_reducible first | exact HB.out | apply below_alloc | apply pw_below_drewN | apply below_drew1) | exact HB.out))) : w.heap.size ≤ gb103)); clear HB; have HB := n0_; have BK103 := n1_; have GW103 := n2_; have GE103 := n3_; clear n0_ n1_ n2_ n3_; clear hb hbox hg; have hcz14_0 : w13.cell? ⟨gb103, 0, none⟩ = some (.int .u8 a0_0) := (blk_cell BK103.out 0).trans rfl; have hcz14_1 : w13.cell? ⟨gb103, 1, none⟩ = some (.int .i64 a0_1) := (blk_cell BK103.out 1).trans rfl; have hcz14_2 : w13.cell? ⟨gb103, 2, none⟩ = some (.string a0_2) := (blk_cell BK103.out 2).trans rfl; have hfz14_0 := blk_frozen BK103.out 0; have hfz14_1 := blk_frozen BK103.out 1; have hfz14_2 := blk_frozen BK103.out 2))
            go_ret
            exact ⟨by first | rfl | (simp [errW_none, errW_some] <;> rfl) | (simp [*, errW_none, errW_some] <;> rfl), by repeat (first | (with_reducible first | exact HB.out | apply below_alloc | apply pw_below_drewN | apply below_drew1 | refine below_set ?_ GE103.out) | exact HB.out)⟩
          · rw [if_neg c12] at H
            have c12b0 : (a0_0 == 1) = false := beq_eq_false_iff_ne.mpr c12
            have c12b1 : (a0_0 != 1) = true := bne_iff_ne.mpr c12
            obtain rfl := Option.some.inj H
            go_enter Try.func61, Try.ntmps61
            go_wp2_with (first | ((with_reducible refine gate_dst (N := 1) rfl ?_); refine box_event ?hg (N := 1) ?hd (cs := #[.int .u8 a0_0, .int .i64 a0_1, .string a0_2]) (t := 39) ?hr ?_; (case hd => rfl); (case hg => rfl); (case hr => first | (go_simp; done) | (go_simp; rfl)); intro gb103 hg w15 hbox hb; have n0_ := Aside0.mk (below_step (by repeat (first | (with_reducible first | exact HB.out | apply below_alloc | apply pw_below_drewN | apply below_drew1) | exact HB.out)) hb); have n1_ := Aside0.mk (hbox); have n2_ := Aside0.mk ((by rw [hg]; exact (below_size (by repeat (first | (with_reducible first | exact HB.out | apply below_alloc | apply pw_below_drewN | apply below_drew1) | exact HB.out))) : w.heap.size ≤ gb103)); have n3_ := Aside0.mk ((by rw [hg]; exact (below_size (by repeat (first | (with_reducible first | exact HB.out | apply below_alloc | apply pw_below_drewN | apply below_drew1) | exact HB.out))) : w.heap.size ≤ gb103)); clear HB; have HB := n0_; have BK103 := n1_; have GW103 := n2_; have GE103 := n3_; clear n0_ n1_ n2_ n3_; clear hb hbox hg; have hcz16_0 : w15.cell? ⟨gb103, 0, none⟩ = some (.int .u8 a0_0) := (blk_cell BK103.out 0).trans rfl; have hcz16_1 : w15.cell? ⟨gb103, 1, none⟩ = some (.int .i64 a0_1) := (blk_cell BK103.out 1).trans rfl; have hcz16_2 : w15.cell? ⟨gb103, 2, none⟩ = some (.string a0_2) := (blk_cell BK103.out 2).trans rfl; have hfz16_0 := blk_frozen BK103.out 0; have hfz16_1 := blk_frozen BK103.out 1; have hfz16_2 := blk_frozen BK103.out 2))
            go_ret
            exact ⟨by first | rfl | (simp [errW_none, errW_some] <;> rfl) | (simp [*, errW_none, errW_some] <;> rfl), by repeat (first | (with_reducible first | exact HB.out | apply below_alloc | apply pw_below_drewN | apply below_drew1 | refine below_set ?_ GE103.out) | exact HB.out)⟩
    · rw [if_neg c5] at H
      have c5b0 : (a0_0 == 3) = false := beq_eq_false_iff_ne.mpr c5
      have c5b1 : (a0_0 != 3) = true := bne_iff_ne.mpr c5
      by_cases c17 : a0_2.toList = ([] : List UInt8)
      · rw [if_pos c17] at H
        have c17b0 : (a0_2.toList == ([] : List UInt8)) = true := beq_iff_eq.mpr c17
        have c17b1 : (a0_2.toList != ([] : List UInt8)) = false := bne_eq_false_iff_eq.mpr c17
        clear c17
        by_cases c18 : a0_0 = 2
        · rw [if_pos c18] at H
          have c18b0 : (a0_0 == 2) = true := beq_iff_eq.mpr c18
          have c18b1 : (a0_0 != 2) = false := bne_eq_false_iff_eq.mpr c18
          clear c18
          obtain rfl := Option.some.inj H
          go_enter Try.func61, Try.ntmps61
          go_wp2_with (first | ((with_reducible refine gate_dst (N := 1) rfl ?_); refine box_event ?hg (N := 1) ?hd (cs := #[.int .u8 a0_0, .int .i64 a0_1, .string a0_2]) (t := 39) ?hr ?_; (case hd => rfl); (case hg => rfl); (case hr => first | (go_simp; done) | (go_simp; rfl)); intro gb103 hg w19 hbox hb; have n0_ := Aside0.mk (below_step (by repeat (first | (with_reducible first | exact HB.out | apply below_alloc | apply pw_below_drewN | apply below_drew1) | exact HB.out)) hb); have n1_ := Aside0.mk (hbox); have n2_ := Aside0.mk ((by rw [hg]; exact (below_size (by repeat (first | (with_reducible first | exact HB.out | apply below_alloc | apply pw_below_drewN | apply below_drew1) | exact HB.out))) : w.heap.size ≤ gb103)); have n3_ := Aside0.mk ((by rw [hg]; exact (below_size (by repeat (first | (with_reducible first | exact HB.out | apply below_alloc | apply pw_below_drewN | apply below_drew1) | exact HB.out))) : w.heap.size ≤ gb103)); clear HB; have HB := n0_; have BK103 := n1_; have GW103 := n2_; have GE103 := n3_; clear n0_ n1_ n2_ n3_; clear hb hbox hg; have hcz20_0 : w19.cell? ⟨gb103, 0, none⟩ = some (.int .u8 a0_0) := (blk_cell BK103.out 0).trans rfl; have hcz20_1 : w19.cell? ⟨gb103, 1, none⟩ = some (.int .i64 a0_1) := (blk_cell BK103.out 1).trans rfl; have hcz20_2 : w19.cell? ⟨gb103, 2, none⟩ = some (.string a0_2) := (blk_cell BK103.out 2).trans rfl; have hfz20_0 := blk_frozen BK103.out 0; have hfz20_1 := blk_frozen BK103.out 1; have hfz20_2 := blk_frozen BK103.out 2))
          go_ret
          exact ⟨by first | rfl | (simp [errW_none, errW_some] <;> rfl) | (simp [*, errW_none, errW_some] <;> rfl), by repeat (first | (with_reducible first | exact HB.out | apply below_alloc | apply pw_below_drewN | apply below_drew1 | refine below_set ?_ GE103.out) | exact HB.out)⟩
        · rw [if_neg c18] at H
          have c18b0 : (a0_0 == 2) = false := beq_eq_false_iff_ne.mpr c18
          have c18b1 : (a0_0 != 2) = true := bne_iff_ne.mpr c18
          by_cases c21 : a0_1 = 0
          · rw [if_pos c21] at H
            have c21b0 : (a0_1 == 0) = true := beq_iff_eq.mpr c21
            have c21b1 : (a0_1 != 0) = false := bne_eq_false_iff_eq.mpr c21
            clear c21
            obtain rfl := Option.some.inj H
            go_enter Try.func61, Try.ntmps61
            go_wp2_with (first | ((with_reducible refine gate_dst (N := 1) rfl ?_); refine box_event ?hg (N := 1) ?hd (cs := #[.int .u8 a0_0, .int .i64 a0_1, .string a0_2]) (t := 39) ?hr ?_; (case hd => rfl); (case hg => rfl); (case hr => first | (go_simp; done) | (go_simp; rfl)); intro gb103 hg w22 hbox hb; have n0_ := Aside0.mk (below_step (by repeat (first | (with_reducible first | exact HB.out | apply below_alloc | apply pw_below_drewN | apply below_drew1) | exact HB.out)) hb); have n1_ := Aside0.mk (hbox); have n2_ := Aside0.mk ((by rw [hg]; exact (below_size (by repeat (first | (with_reducible first | exact HB.out | apply below_alloc | apply pw_below_drewN | apply below_drew1) | exact HB.out))) : w.heap.size ≤ gb103)); have n3_ := Aside0.mk ((by rw [hg]; exact (below_size (by repeat (first | (with_reducible first | exact HB.out | apply below_alloc | apply pw_below_drewN | apply below_drew1) | exact HB.out))) : w.heap.size ≤ gb103)); clear HB; have HB := n0_; have BK103 := n1_; have GW103 := n2_; have GE103 := n3_; clear n0_ n1_ n2_ n3_; clear hb hbox hg; have hcz23_0 : w22.cell? ⟨gb103, 0, none⟩ = some (.int .u8 a0_0) := (blk_cell BK103.out 0).trans rfl; have hcz23_1 : w22.cell? ⟨gb103, 1, none⟩ = some (.int .i64 a0_1) := (blk_cell BK103.out 1).trans rfl; have hcz23_2 : w22.cell? ⟨gb103, 2, none⟩ = some (.string a0_2) := (blk_cell BK103.out 2).trans rfl; have hfz23_0 := blk_frozen BK103.out 0; have hfz23_1 := blk_frozen BK103.out 1; have hfz23_2 := blk_frozen BK103.out 2))
            go_ret
            exact ⟨by first | rfl | (simp [errW_none, errW_some] <;> rfl) | (simp [*, errW_none, errW_some] <;> rfl), by repeat (first | (with_reducible first | exact HB.out | apply below_alloc | apply pw_below_drewN | apply below_drew1 | refine below_set ?_ GE103.out) | exact HB.out)⟩
          · rw [if_neg c21] at H
            have c21b0 : (a0_1 == 0) = false := beq_eq_false_iff_ne.mpr c21
            have c21b1 : (a0_1 != 0) = true := bne_iff_ne.mpr c21
            by_cases c24 : a0_0 = 1
            · rw [if_pos c24] at H
              have c24b0 : (a0_0 == 1) = true := beq_iff_eq.mpr c24
              have c24b1 : (a0_0 != 1) = false := bne_eq_false_iff_eq.mpr c24
              clear c24
              obtain rfl := Option.some.inj H
              go_enter Try.func61, Try.ntmps61
              go_wp2_with (first | ((with_reducible refine gate_dst (N := 1) rfl ?_); refine box_event ?hg (N := 1) ?hd (cs := #[.int .u8 a0_0, .int .i64 a0_1, .string a0_2]) (t := 39) ?hr ?_; (case hd => rfl); (case hg => rfl); (case hr => first | (go_simp; done) | (go_simp; rfl)); intro gb103 hg w25 hbox hb; have n0_ := Aside0.mk (below_step (by repeat (first | (with_reducible first | exact HB.out | apply below_alloc | apply pw_below_drewN | apply below_drew1) | exact HB.out)) hb); have n1_ := Aside0.mk (hbox); have n2_ := Aside0.mk ((by rw [hg]; exact (below_size (by repeat (first | (with_reducible first | exact HB.out | apply below_alloc | apply pw_below_drewN | apply below_drew1) | exact HB.out))) : w.heap.size ≤ gb103)); have n3_ := Aside0.mk ((by rw [hg]; exact (below_size (by repeat (first | (with_reducible first | exact HB.out | apply below_alloc | apply pw_below_drewN | apply below_drew1) | exact HB.out))) : w.heap.size ≤ gb103)); clear HB; have HB := n0_; have BK103 := n1_; have GW103 := n2_; have GE103 := n3_; clear n0_ n1_ n2_ n3_; clear hb hbox hg; have hcz26_0 : w25.cell? ⟨gb103, 0, none⟩ = some (.int .u8 a0_0) := (blk_cell BK103.out 0).trans rfl; have hcz26_1 : w25.cell? ⟨gb103, 1, none⟩ = some (.int .i64 a0_1) := (blk_cell BK103.out 1).trans rfl; have hcz26_2 : w25.cell? ⟨gb103, 2, none⟩ = some (.string a0_2) := (blk_cell BK103.out 2).trans rfl; have hfz26_0 := blk_frozen BK103.out 0; have hfz26_1 := blk_frozen BK103.out 1; have hfz26_2 := blk_frozen BK103.out 2))
              go_ret
              exact ⟨by first | rfl | (simp [errW_none, errW_some] <;> rfl) | (simp [*, errW_none, errW_some] <;> rfl), by repeat (first | (with_reducible first | exact HB.out | apply below_alloc | apply pw_below_drewN | apply below_drew1 | refine below_set ?_ GE103.out) | exact HB.out)⟩
            · rw [if_neg c24] at H
              have c24b0 : (a0_0 == 1) = false := beq_eq_false_iff_ne.mpr c24
              have c24b1 : (a0_0 != 1) = true := bne_iff_ne.mpr c24
              obtain rfl := Option.some.inj H
              go_enter Try.func61, Try.ntmps61
              go_wp2_with (first | ((with_reducible refine gate_dst (N := 1) rfl ?_); refine box_event ?hg (N := 1) ?hd (cs := #[.int .u8 a0_0, .int .i64 a0_1, .string a0_2]) (t := 39) ?hr ?_; (case hd => rfl); (case hg => rfl); (case hr => first | (go_simp; done) | (go_simp; rfl)); intro gb103 hg w27 hbox hb; have n0_ := Aside0.mk (below_step (by repeat (first | (with_reducible first | exact HB.out | apply below_alloc | apply pw_below_drewN | apply below_drew1) | exact HB.out)) hb); have n1_ := Aside0.mk (hbox); have n2_ := Aside0.mk ((by rw [hg]; exact (below_size (by repeat (first | (with_reducible first | exact HB.out | apply below_alloc | apply pw_below_drewN | apply below_drew1) | exact HB.out))) : w.heap.size ≤ gb103)); have n3_ := Aside0.mk ((by rw [hg]; exact (below_size (by repeat (first | (with_reducible first | exact HB.out | apply below_alloc | apply pw_below_drewN | apply below_drew1) | exact HB.out))) : w.heap.size ≤ gb103)); clear HB; have HB := n0_; have BK103 := n1_; have GW103 := n2_; have GE103 := n3_; clear n0_ n1_ n2_ n3_; clear hb hbox hg; have hcz28_0 : w27.cell? ⟨gb103, 0, none⟩ = some (.int .u8 a0_0) := (blk_cell BK103.out 0).trans rfl; have hcz28_1 : w27.cell? ⟨gb103, 1, none⟩ = some (.int .i64 a0_1) := (blk_cell BK103.out 1).trans rfl; have hcz28_2 : w27.cell? ⟨gb103, 2, none⟩ = some (.string a0_2) := (blk_cell BK103.out 2).trans rfl; have hfz28_0 := blk_frozen BK103.out 0; have hfz28_1 := blk_frozen BK103.out 1; have hfz28_2 := blk_frozen BK103.out 2))
              go_ret
              exact ⟨by first | rfl | (simp [errW_none, errW_some] <;> rfl) | (simp [*, errW_none, errW_some] <;> rfl), by repeat (first | (with_reducible first | exact HB.out | apply below_alloc | apply pw_below_drewN | apply below_drew1 | refine below_set ?_ GE103.out) | exact HB.out)⟩
      · rw [if_neg c17] at H
        have c17b0 : (a0_2.toList == ([] : List UInt8)) = false := beq_eq_false_iff_ne.mpr c17
        have c17b1 : (a0_2.toList != ([] : List UInt8)) = true := bne_iff_ne.mpr c17
        obtain rfl := Option.some.inj H
        go_enter Try.func61, Try.ntmps61
        go_wp2_with (first | ((with_reducible refine gate_dst (N := 1) rfl ?_); refine box_event ?hg (N := 1) ?hd (cs := #[.int .u8 a0_0, .int .i64 a0_1, .string a0_2]) (t := 39) ?hr ?_; (case hd => rfl); (case hg => rfl); (case hr => first | (go_simp; done) | (go_simp; rfl)); intro gb103 hg w29 hbox hb; have n0_ := Aside0.mk (below_step (by repeat (first | (with_reducible first | exact HB.out | apply below_alloc | apply pw_below_drewN | apply below_drew1) | exact HB.out)) hb); have n1_ := Aside0.mk (hbox); have n2_ := Aside0.mk ((by rw [hg]; exact (below_size (by repeat (first | (with_reducible first | exact HB.out | apply below_alloc | apply pw_below_drewN | apply below_drew1) | exact HB.out))) : w.heap.size ≤ gb103)); have n3_ := Aside0.mk ((by rw [hg]; exact (below_size (by repeat (first | (with_reducible first | exact HB.out | apply below_alloc | apply pw_below_drewN | apply below_drew1) | exact HB.out))) : w.heap.size ≤ gb103)); clear HB; have HB := n0_; have BK103 := n1_; have GW103 := n2_; have GE103 := n3_; clear n0_ n1_ n2_ n3_; clear hb hbox hg; have hcz30_0 : w29.cell? ⟨gb103, 0, none⟩ = some (.int .u8 a0_0) := (blk_cell BK103.out 0).trans rfl; have hcz30_1 : w29.cell? ⟨gb103, 1, none⟩ = some (.int .i64 a0_1) := (blk_cell BK103.out 1).trans rfl; have hcz30_2 : w29.cell? ⟨gb103, 2, none⟩ = some (.string a0_2) := (blk_cell BK103.out 2).trans rfl; have hfz30_0 := blk_frozen BK103.out 0; have hfz30_1 := blk_frozen BK103.out 1; have hfz30_2 := blk_frozen BK103.out 2))
        go_ret
        exact ⟨by first | rfl | (simp [errW_none, errW_some] <;> rfl) | (simp [*, errW_none, errW_some] <;> rfl), by repeat (first | (with_reducible first | exact HB.out | apply below_alloc | apply pw_below_drewN | apply below_drew1 | refine below_set ?_ GE103.out) | exact HB.out)⟩

end Go.Proofs.Ytlmcefhpnfoahaa.P
end

section
namespace Go.Proofs.Ytlmcefhpnfoahaa.P
open Go.RowKit Go.Proofs.YtlmcefhpnfoahaaW.PrintWords Go.Proofs.YtlmcefhpnfoahaaW.PrintLast Go.Proofs.YtlmcefhpnfoahaaW.PrintMore
set_option linter.unusedVariables false
set_option linter.unusedSimpArgs false

theorem w64 {x : Int} (h1 : -9223372036854775808 ≤ x) (h2 : x ≤ 9223372036854775807) : wrap64 x = x := by
  unfold wrap64
  omega
theorem w64s (i : Nat) (h : i < 9223372036854775807) : wrap64 ((i : Int) + 1) = ((i + 1 : Nat) : Int) := by
  rw [w64 (by omega) (by omega)]
  omega
theorem rdT_mem {l : List S39} {k : Nat} (h : k < l.length) : rd_T39 l k ∈ l := by
  unfold rd_T39
  rw [Int.toNat_natCast, List.getD_eq_getElem?_getD, List.getElem?_eq_getElem h]
  exact List.getElem_mem h
theorem rdT_get {l : List S39} {k : Nat} (h : k < l.length) : rd_T39 l k = l[k] := by
  unfold rd_T39
  rw [Int.toNat_natCast, List.getD_eq_getElem?_getD, List.getElem?_eq_getElem h]
  rfl

theorem refMay {x : S39} (h : 0 ≤ x.f0) : tidelineref03_May.f x.f0 x.f1 x.f2 = some (mayB x) := by
  unfold tidelineref03_May.f mayB
  have e : x.f2.toList = [] ↔ x.f2.toList.isEmpty = true := by simp
  by_cases h4 : x.f0 > 3
  · rw [if_pos h4]
    have h0 : (x.f0 == 0) = false := by simp; omega
    have h1 : (x.f0 == 1) = false := by simp; omega
    have h2 : (x.f0 == 2) = false := by simp; omega
    have h3 : (x.f0 == 3) = false := by simp; omega
    simp [h0, h1, h2, h3]
  · rw [if_neg h4]
    have hc : x.f0 = 0 ∨ x.f0 = 1 ∨ x.f0 = 2 ∨ x.f0 = 3 := by omega
    by_cases he : x.f2.toList = []
    · have he' := e.1 he
      rcases hc with hc | hc | hc | hc
      · rw [hc, he']; by_cases h1 : x.f1 = 0 <;> simp [he, h1]
      · rw [hc, he']; by_cases h1 : x.f1 = 0 <;> simp [he, h1]
      · rw [hc, he']; simp [he]
      · rw [hc, he']; by_cases h1 : x.f1 = 0 <;> simp [h1]
    · have he' : x.f2.toList.isEmpty = false := by
        cases hb : x.f2.toList.isEmpty with
        | false => rfl
        | true => exact absurd (e.2 hb) he
      rcases hc with hc | hc | hc | hc
      · rw [hc, he']; simp [he]
      · rw [hc, he']; simp [he]
      · rw [hc, he']; simp [he]
      · rw [hc, he']; by_cases h1 : x.f1 = 0 <;> simp [h1]
theorem ext39 {x y : S39} (h0 : x.f0 = y.f0) (h1 : x.f1 = y.f1) (h2 : x.f2.toList = y.f2.toList) : x = y := by
  obtain ⟨a, b, c⟩ := x
  obtain ⟨a', b', c'⟩ := y
  dsimp only at *
  rw [ByteArray.toList_eq, ByteArray.toList_eq] at h2
  have := WideShapes.bytes_inj h2
  subst h0 h1 this
  rfl
theorem bytesOf_strOfNums (l : List Int) (h : ∀ x ∈ l, isByte x = true) : bytesOf (strOfNums l) = l := by
  unfold bytesOf strOfNums
  simp only [List.map_map]
  rw [List.map_congr_left (g := id)]
  · simp
  · intro x hx
    have := h x hx
    simp only [isByte, Bool.and_eq_true, decide_eq_true_eq] at this
    simp only [Function.comp, id]
    rw [UInt8.toNat_ofNat']
    omega
theorem strOfNums_bytesOf (s : ByteArray) : strOfNums (bytesOf s) = s := by
  apply ByteArray.ext
  apply Array.ext'
  simp only [strOfNums, bytesOf, List.map_map]
  rw [List.map_congr_left (g := id)]
  · simp
  · intro x hx
    simp
theorem bytesOf_isByte (s : ByteArray) : ∀ x ∈ bytesOf s, isByte x = true := by
  intro x hx
  simp only [bytesOf, List.mem_map] at hx
  obtain ⟨b, _, rfl⟩ := hx
  have := b.toNat_lt
  simp only [isByte, Bool.and_eq_true, decide_eq_true_eq]
  omega
theorem toList_empty : (⟨#[]⟩ : ByteArray).toList = [] := by decide +kernel
theorem empty_of (s : ByteArray) (h : s.toList.isEmpty = true) : s = ⟨#[]⟩ := by
  have h2 : s.toList = (⟨#[]⟩ : ByteArray).toList := by rw [toList_empty]; exact List.isEmpty_iff.mp h
  have h3 := ext39 (x := ⟨0, 0, s⟩) (y := ⟨0, 0, ⟨#[]⟩⟩) rfl rfl h2
  exact congrArg S39.f2 h3
theorem leO_le {α : Type} {g : Nat → Option α} (hm : ∀ k, LeO (g k) (g (k + 1))) {m n : Nat} (h : m ≤ n) {r : α} (hr : g m = some r) : g n = some r := by
  induction n with
  | zero => obtain rfl : m = 0 := by omega
            exact hr
  | succ n ih =>
    by_cases e : m = n + 1
    · subst e; exact hr
    · exact hm n r (ih (by omega))
theorem okNum_of (l : List S39) (hw : ∀ x ∈ l, okVal x) : l.all okNum = true := by
  rw [List.all_eq_true]
  intro x hx
  obtain ⟨_, ⟨h1, h2⟩, _⟩ := hw x hx
  simp [okNum, h1, h2]
theorem append_f (l : List S39) (h : (encR l).length ≤ 1000000) (hn : l.all okNum = true) : key_Append.f [] l = some (if l.all mayB then (encR l, 0) else ([], 1)) := by
  unfold key_Append.f
  rw [if_pos ⟨by simp; omega, hn⟩]
  simp
end Go.Proofs.Ytlmcefhpnfoahaa.P
end

section
namespace Go.Proofs.Ytlmcefhpnfoahaa.P
open Go.RowKit Go.Proofs.YtlmcefhpnfoahaaW.PrintWords Go.Proofs.YtlmcefhpnfoahaaW.PrintLast Go.Proofs.YtlmcefhpnfoahaaW.PrintMore
set_option linter.unusedVariables false
set_option linter.unusedSimpArgs false

/-- A number's place in the row 0, -1, 1, .. -/
def zig (n : Int) : Int := if 0 ≤ n then 2 * n else -2 * n - 1
theorem xor_ones (a : Nat) (h : a < 18446744073709551616) : a ^^^ 18446744073709551615 = 18446744073709551615 - a := by
  have e : 18446744073709551615 - a = 2 ^ 64 - (a + 1) := by omega
  rw [e]
  apply Nat.eq_of_testBit_eq
  intro i
  rw [Nat.testBit_two_pow_sub_succ (by omega), Nat.testBit_xor, show 18446744073709551615 = 2 ^ 64 - 1 from rfl, Nat.testBit_two_pow_sub_one]
  by_cases hi : i < 64
  · simp [hi]
  · have : a.testBit i = false := Nat.testBit_lt_two_pow (Nat.lt_of_lt_of_le h (by
      show 2 ^ 64 ≤ 2 ^ i
      exact Nat.pow_le_pow_right (by decide) (by omega)))
    simp [hi, this]
theorem zig_range (n : Int) (h1 : -9223372036854775808 ≤ n) (h2 : n ≤ 9223372036854775807) : 0 ≤ zig n ∧ zig n ≤ 18446744073709551615 := by
  unfold zig
  split <;> omega
theorem zig_f (n : Int) (h1 : -9223372036854775808 ≤ n) (h2 : n ≤ 9223372036854775807) : varint_Zig.f n = some (zig n) := by
  unfold varint_Zig.f zig
  have hw : ∀ m : Int, IntKind.u64.wrap m = m % 18446744073709551616 := fun m => rfl
  simp only [hw]
  congr 1
  by_cases h0 : 0 ≤ n
  · rw [if_pos h0]
    have e1 : n % 18446744073709551616 * 2 % 18446744073709551616 = 2 * n := by omega
    have e2 : n / 9223372036854775808 % 18446744073709551616 = 0 := by omega
    rw [e1, e2, u64_xor _ _ (by omega) (by omega) (by omega) (by omega)]
    simp
    omega
  · rw [if_neg h0]
    have e1 : n % 18446744073709551616 * 2 % 18446744073709551616 = 2 * n + 18446744073709551616 := by omega
    have e2 : n / 9223372036854775808 % 18446744073709551616 = 18446744073709551615 := by omega
    rw [e1, e2, u64_xor _ _ (by omega) (by omega) (by omega) (by omega)]
    have e3 : (18446744073709551615 : Int).toNat = 18446744073709551615 := rfl
    rw [e3, xor_ones _ (by omega)]
    omega
def rowMay (t : Int) (x : S39) : Bool := mayB x && (x.f0 == 0 || x.f0 == t)
theorem encV_len (x : S39) : (encV x).length ≤ 2 * x.f2.size + 10 := by
  have he : ∀ l : List Int, (esc l).length ≤ 2 * l.length := by
    intro l
    induction l with
    | nil => simp [esc]
    | cons c r ih => simp only [esc]; split <;> simp <;> omega
  have := he (bytesOf x.f2)
  rw [bytesOf_length] at this
  unfold encV
  split
  · simp
  · split
    · simp
    · split
      · simp [be8_length]
      · simp; omega
theorem rowMay_f (t : Int) (x : S39) (hn : okNum x = true) (hs : x.f2.size ≤ 400000) : row_may.f t x.f0 x.f1 x.f2 = some (rowMay t x) := by
  unfold row_may.f
  have hl : (encR [x]).length ≤ 1000000 := by
    have := encV_len x
    simp [encR]
    omega
  rw [show (⟨x.f0, x.f1, x.f2⟩ : S39) = x from rfl, append_f [x] hl (by simp [hn]), Option.bind_some]
  unfold rowMay
  simp only [List.all_cons, List.all_nil, Bool.and_true]
  by_cases hm : mayB x = true
  · rw [if_pos hm, hm]
    simp only [if_true]
    by_cases h0 : x.f0 = 0
    · rw [if_pos h0, h0]; rfl
    · rw [if_neg h0]
      simp [h0]
  · rw [if_neg hm]
    simp [hm]
end Go.Proofs.Ytlmcefhpnfoahaa.P
end

section
namespace Go.Proofs.Ytlmcefhpnfoahaa.P
open Go.RowKit Go.Proofs.YtlmcefhpnfoahaaW.PrintWords Go.Proofs.YtlmcefhpnfoahaaW.PrintLast Go.Proofs.YtlmcefhpnfoahaaW.PrintMore
set_option linter.unusedVariables false
set_option linter.unusedSimpArgs false

/-- Whose place it is. -/
def zag (u : Int) : Int := if u % 2 = 0 then u / 2 else - (u / 2) - 1
def nulV (x : S39) : Bool := x.f0 == 0
/-- Is a bit behind the n-th set? -/
def loose (b : List Int) (n : Nat) : Bool := (List.range (8 * ((n + 7) / 8) - n)).any fun j => bitAt b (n + j)
end Go.Proofs.Ytlmcefhpnfoahaa.P
end

section
namespace Go.Proofs.Ytlmcefhpnfoahaa.P
open Go.RowKit Go.Proofs.YtlmcefhpnfoahaaW.PrintWords Go.Proofs.YtlmcefhpnfoahaaW.PrintLast Go.Proofs.YtlmcefhpnfoahaaW.PrintMore
set_option linter.unusedVariables false
set_option linter.unusedSimpArgs false

theorem Own.put {B : Nat} {w0 W : World} {g n c : Nat} {xs : List Int} (h : Own (Kd.int .u8) 5 B w0 W (.slice (some ⟨g, 0, none⟩) n c) xs) (i : Nat) (y : Int) : Own (Kd.int .u8) 5 B w0 (W.setCell ⟨g, i, none⟩ (.int .u8 y)) (.slice (some ⟨g, 0, none⟩) n c) (xs.set i y) := by
  have h1 := Kd.R_putn h.r (i : Int) y
  rw [Int.toNat_natCast] at h1
  have hg := Kd.R_base h.r g rfl
  exact ⟨h1, h.b.setCell hg _, by have := h.s; simpa [World.setCell] using this⟩
theorem Blk.put {W : World} {g b n c i : Nat} {o : Obj} (h : Blk W g o (.slice (some ⟨b, 0, none⟩) n c)) (y : Value) : Blk (W.setCell ⟨b, i, none⟩ y) g o (.slice (some ⟨b, 0, none⟩) n c) :=
  ⟨(Below.heap_setCell W ⟨b, i, none⟩ y g (fun e => h.n (by rw [e]; rfl))).trans h.h, h.n⟩
theorem u8_pow (j : Nat) (h : j < 8) : (2 : Int) ^ j % 256 = 2 ^ j := by
  have : j = 0 ∨ j = 1 ∨ j = 2 ∨ j = 3 ∨ j = 4 ∨ j = 5 ∨ j = 6 ∨ j = 7 := by omega
  rcases this with rfl | rfl | rfl | rfl | rfl | rfl | rfl | rfl <;> rfl
end Go.Proofs.Ytlmcefhpnfoahaa.P
end

section
namespace Go.Proofs.Ytlmcefhpnfoahaa.P
open Go.RowKit Go.Proofs.YtlmcefhpnfoahaaW.PrintWords Go.Proofs.YtlmcefhpnfoahaaW.PrintLast Go.Proofs.YtlmcefhpnfoahaaW.PrintMore
set_option linter.unusedVariables false
set_option linter.unusedSimpArgs false

theorem layN_false (p : Nat → Bool) (n k : Nat) (h : p k = false) : layN p n (k + 1) = layN p n k := by
  show (if p k then setBit (layN p n k) k else layN p n k) = _
  rw [h]; rfl
theorem layN_true (p : Nat → Bool) (n k : Nat) (h : p k = true) : layN p n (k + 1) = setBit (layN p n k) k := by
  show (if p k then setBit (layN p n k) k else layN p n k) = _
  rw [h]; rfl
def GL96.T6 : Bool × List (List Nat × List Nat) := (true, [([], []), ([], []), ([1], [1]), ([0, 2], [0, 2]), ([3], [3]), ([], []), ([5], [5]), ([6], [6]), ([4, 7], [4, 7]), ([0, 2, 0, 1, 2, 3, 4, 5, 6, 7, 8], [0, 2]), ([9, 8, 0, 1, 2, 3, 4, 5, 6, 7, 8], [8, 9])])
def GL96.B6 : List Nat := [0, 0, 2, 7, 15, 0, 32, 96, 255, 511, 1023]
theorem GL96.tab6 : rtab .any (opsOf Try.f96 6) = GL96.T6 := by kernel_rfl
theorem GL96.bits6 : waitsOk GL96.T6.2 GL96.B6 = true := by kernel_rfl
set_option maxRecDepth 100000 in
set_option maxHeartbeats 1600000 in
theorem lay_97 (p : Nat → Bool) (n : Nat) (hn : n ≤ 100000) (cap : Value) (w : World) (HIS : Aside0 (∀ W : World, Below w.heap.size w W → ∀ i : Nat, i < n → Calls Try.prog 97 #[.int .i64 i, cap] W fun e w' => e = .returned (.bool (p i)) ∧ W = w')) :
    Calls Try.prog 96 #[.int .i64 n, .func (.func 97) #[] #[cap]] w fun e w' => ∃ v0_ : Value, e = .returned v0_ ∧ Kd.R (Kd.int .u8) 5 w' w.heap.size (fun _ => True) v0_ (lay p n) ∧ Below w.heap.size w w' := by
  have hdv : ((n : Int) + 7) / 8 = (((n + 7) / 8 : Nat) : Int) := by omega
  have HDV := Aside0.mk hdv
  clear hdv
  have HB1 := Aside0.mk (Below.refl w.heap.size w)
  go_enter Try.func96, Try.ntmps96
  go_wp2_with (first
    | ((with_reducible refine gate_dst (N := 10) rfl ?_); refine Kd.R_make (Kd.int .u8) w.heap.size 5 rfl (N := 10) rfl 22 _ _ rfl (((n : Int) + 7) / 8) rfl rfl Try.underlying22 (.int .u8 0) 1 info5 rfl (by decide) (by omega) 0 (ok := fun _ => True) (okp := fun _ => True) rfl (fun _ hk => hk) trivial (by omega) (by omega) HB1.out HB1.out.size ?_; intro v2 w2 ho hb hg hnew; have HO := Aside0.mk (Own.mk ho hb (Nat.le_trans HB1.out.size hg.size)); clear ho hb hg hnew))
  go_loopw [6, 12] (fun v6 v12 W => ∃ k : Nat, k ≤ n ∧ v12 = .int .i64 k ∧ Aside0 (Own (Kd.int .u8) 5 w.heap.size w W v2 (layN p n k))) (fun _ v12 _ => n - (intOf v12).toNat)
  case atStart => exact ⟨0, Nat.zero_le _, rfl, ⟨HO.out.of_cast (by rw [HDV.out, Int.toNat_natCast]; rfl)⟩⟩
  case round =>
    clear HO HDV HB1
    obtain ⟨k, hk, rfl, HO⟩ := hrel
    by_cases hlt : k < n
    · have MI := Aside0.mk (HIS.out wr HO.out.b k hlt)
      have HLL := layN_length p n k
      obtain ⟨q, hq⟩ : ∃ q, q = p k := ⟨_, rfl⟩
      have HQ := Aside0.mk hq
      rw [← hq] at MI
      clear hq
      have hkn : (k : Int) < (n : Int) := by omega
      cases q with
      | false =>
        have HE : Aside0 (layN p n (k + 1) = layN p n k) := ⟨layN_false p n k HQ.out.symm⟩
        clear HLL
        go_wp2_with (go_at_call 97; refine MI.out.mono ?_; rintro e wq ⟨rfl, rfl⟩)
        go_roundw
        case rel => exact ⟨k + 1, by omega, by go_num, ⟨HO.out.of_cast HE.out.symm⟩⟩
        case measure => simp [intOf]; omega
      | true =>
        have HE : Aside0 (layN p n (k + 1) = setBit (layN p n k) k) := ⟨layN_true p n k HQ.out.symm⟩
        obtain ⟨L, hL⟩ : ∃ L, L = layN p n k := ⟨_, rfl⟩
        rw [← hL] at HO HE HLL
        clear hL
        go_wp2_with (go_at_call 97; refine MI.out.mono ?_; rintro e wq ⟨rfl, rfl⟩)
        obtain ⟨g6, c6, e6, gb6, gl6, _⟩ := Kd.R_form HO.out.r (by omega)
        subst e6
        clear gb6 gl6
        obtain ⟨jq, hjq⟩ : ∃ j, j = k / 8 := ⟨_, rfl⟩
        obtain ⟨jr, hjr⟩ : ∃ j, j = k % 8 := ⟨_, rfl⟩
        have HJ := Aside0.mk (And.intro hjq hjr)
        have n1 : (k : Int).tdiv 8 = (jq : Int) := by rw [Int.tdiv_eq_ediv_of_nonneg (by omega)]; omega
        have n2 : (k : Int) / 8 = (jq : Int) := by omega
        have n3 : (k : Int).tmod 8 = (jr : Int) := by rw [Int.tmod_eq_emod_of_nonneg (by omega)]; omega
        have n4 : (k : Int) % 8 = (jr : Int) := by omega
        have n5 : jr < 8 := by omega
        have n6 : (0 : Int) ≤ (jq : Int) := by omega
        have n7 : (jq : Int) < (L.length : Int) := by omega
        have n8 : jq < L.length := by omega
        clear hjq hjr HLL
        obtain ⟨hx6, hf6⟩ := Kd.R_celln 0 HO.out.r (jq : Int) n6 n7
        rw [Int.toNat_natCast] at hx6 hf6
        have m1 : min jr 8 = jr := by omega
        have m2 : IntKind.u8.wrap (2 ^ jr) = 2 ^ jr := u8_pow jr n5
        have m3 : (2 : Int) ^ jr % 256 = 2 ^ jr := u8_pow jr n5
        have m4 : (0 : Int) ≤ (jr : Int) := by omega
        have m5 : (jr : Int) < 8 := by omega
        have n9 : wrap64 (jq : Int) = (jq : Int) := by unfold wrap64; omega
        refine start_ (n := 11) (S := fun W' => W'.cell? ⟨g6, jq, none⟩ = some (.int .u8 (rd L jq))) (ds := [10]) #[false, false, false, false, false, false, false, false, false, false, false] (by kernel_rfl) rfl rfl (hx6) (fun hHeld => ?_)
        refine with_tabW GL96.tab6 GL96.bits6 (fun HT_ HW_ => ?_)
        refine pure_ (i := 0) (N := some 18) (v := ?_) (a' := ?_) #[true, false, false, false, false, false, false, false, false, false, false] rfl rfl (any_of HT_.out (by kernel_rfl)) (fun _ _ _ h => h) (Or.inl ⟨by rfl, ?_⟩) ?_ ?_
        rotate_left
        · intro w'
          go_simp
          with_reducible rfl
        rotate_left
        · simp only [Act.put, List.setIfInBounds_toArray, List.set_cons_zero, List.set_cons_succ, i64_w, i32_w]
          rfl
        refine pure_ (i := 1) (N := some 19) (v := ?_) (a' := ?_) #[true, true, false, false, false, false, false, false, false, false, false] rfl rfl (any_of HT_.out (by kernel_rfl)) (fun _ _ _ h => h) (Or.inl ⟨by rfl, ?_⟩) ?_ ?_
        rotate_left
        · intro w'
          go_simp
          with_reducible rfl
        rotate_left
        · simp only [Act.put, List.setIfInBounds_toArray, List.set_cons_zero, List.set_cons_succ, i64_w, i32_w]
          rfl
        refine pure_ (i := 2) (N := some 20) (v := ?_) (a' := ?_) #[true, true, true, false, false, false, false, false, false, false, false] rfl rfl (any_of HT_.out (by kernel_rfl)) (fun _ _ _ h => h) (Or.inl ⟨by rfl, ?_⟩) ?_ ?_
        rotate_left
        · intro w'
          go_simp
          with_reducible rfl
        rotate_left
        · simp only [Act.put, List.setIfInBounds_toArray, List.set_cons_zero, List.set_cons_succ, i64_w, i32_w]
          rfl
        refine pure_ (i := 3) (N := some 21) (v := ?_) (a' := ?_) #[true, true, true, true, false, false, false, false, false, false, false] rfl rfl (any_of HT_.out (by kernel_rfl)) (fun _ _ _ h => h) (Or.inl ⟨by rfl, ?_⟩) ?_ ?_
        rotate_left
        · intro w'
          go_simp
          with_reducible rfl
        rotate_left
        · simp only [Act.put, List.setIfInBounds_toArray, List.set_cons_zero, List.set_cons_succ, i64_w, i32_w]
          rfl
        refine take_ (i := 4) (N := some 22) (v := ?_) (a' := ?_) #[true, true, true, true, true, false, false, false, false, false, false] rfl rfl (take_ofW HT_.out HW_.out (by kernel_rfl)) (fun _ _ _ h => h) (Or.inl ⟨by rfl, ?_⟩) hHeld ?_ ?_
        rotate_left
        · intro w' s0
          (try dsimp only at s0)
          (try go_split_ands)
          go_simp
          with_reducible rfl
        rotate_left
        · simp only [Act.put, List.setIfInBounds_toArray, List.set_cons_zero, List.set_cons_succ, i64_w, i32_w]
          rfl
        refine pure_ (i := 5) (N := some 23) (v := ?_) (a' := ?_) #[true, true, true, true, true, true, false, false, false, false, false] rfl rfl (any_of HT_.out (by kernel_rfl)) (fun _ _ _ h => h) (Or.inl ⟨by rfl, ?_⟩) ?_ ?_
        rotate_left
        · intro w'
          go_simp
          with_reducible rfl
        rotate_left
        · simp only [Act.put, List.setIfInBounds_toArray, List.set_cons_zero, List.set_cons_succ, i64_w, i32_w]
          rfl
        refine pure_ (i := 6) (N := some 24) (v := ?_) (a' := ?_) #[true, true, true, true, true, true, true, false, false, false, false] rfl rfl (any_of HT_.out (by kernel_rfl)) (fun _ _ _ h => h) (Or.inl ⟨by rfl, ?_⟩) ?_ ?_
        rotate_left
        · intro w'
          go_simp
          with_reducible rfl
        rotate_left
        · simp only [Act.put, List.setIfInBounds_toArray, List.set_cons_zero, List.set_cons_succ, i64_w, i32_w]
          rfl
        refine pure_ (i := 7) (N := some 25) (v := ?_) (a' := ?_) #[true, true, true, true, true, true, true, true, false, false, false] rfl rfl (any_of HT_.out (by kernel_rfl)) (fun _ _ _ h => h) (Or.inl ⟨by rfl, ?_⟩) ?_ ?_
        rotate_left
        · intro w'
          go_simp
          with_reducible rfl
        rotate_left
        · simp only [Act.put, List.setIfInBounds_toArray, List.set_cons_zero, List.set_cons_succ, i64_w, i32_w]
          rfl
        refine pure_ (i := 8) (N := some 26) (v := ?_) (a' := ?_) #[true, true, true, true, true, true, true, true, true, false, false] rfl rfl (any_of HT_.out (by kernel_rfl)) (fun _ _ _ h => h) (Or.inl ⟨by rfl, ?_⟩) ?_ ?_
        rotate_left
        · intro w'
          go_simp
          with_reducible rfl
        rotate_left
        · simp only [Act.put, List.setIfInBounds_toArray, List.set_cons_zero, List.set_cons_succ, i64_w, i32_w]
          rfl
        refine pure_ (i := 9) (N := some 27) (v := ?_) (a' := ?_) #[true, true, true, true, true, true, true, true, true, true, false] rfl rfl (any_of HT_.out (by kernel_rfl)) (fun _ _ _ h => h) (Or.inl ⟨by rfl, ?_⟩) ?_ ?_
        rotate_left
        · intro w'
          go_simp
          with_reducible rfl
        rotate_left
        · simp only [Act.put, List.setIfInBounds_toArray, List.set_cons_zero, List.set_cons_succ, i64_w, i32_w]
          rfl
        refine last_ (i := 10) (N := none) #[true, true, true, true, true, true, true, true, true, true, true] rfl rfl (one_of HT_.out (by kernel_rfl)) (by decide) (fun K hK => ?_)
        refine skip_ (w1 := ?_) (by rfl) rfl ?_ ?_
        rotate_left
        · go_simp
          rfl
        refine hK.out _ _ ?_
        clear hK K
        refine done_ (done_of HT_.out (by kernel_rfl)) ?_
        clear n9 m2
        go_wp2_with fail
        have HO5 := Aside0.mk ((HO.out.put jq (bits .or .u8 (rd L (jq : Int)) (2 ^ jr))).drew)
        go_roundw
        case rel => exact ⟨k + 1, by omega, by go_num, ⟨HO5.out.of_cast (by rw [HE.out, HJ.out.1, HJ.out.2]; rfl)⟩⟩
        case measure => simp [intOf]; omega
    · obtain rfl : k = n := by omega
      go_wp2_with fail
      go_ret
      exact ⟨_, rfl, HO.out.r, HO.out.b⟩
set_option maxRecDepth 100000 in
set_option maxHeartbeats 1600000 in
theorem lay_144 (p : Nat → Bool) (n : Nat) (hn : n ≤ 100000) (cap : Value) (w : World) (HIS : Aside0 (∀ W : World, Below w.heap.size w W → ∀ i : Nat, i < n → Calls Try.prog 144 #[.int .i64 i, cap] W fun e w' => e = .returned (.bool (p i)) ∧ W = w')) :
    Calls Try.prog 96 #[.int .i64 n, .func (.func 144) #[] #[cap]] w fun e w' => ∃ v0_ : Value, e = .returned v0_ ∧ Kd.R (Kd.int .u8) 5 w' w.heap.size (fun _ => True) v0_ (lay p n) ∧ Below w.heap.size w w' := by
  have hdv : ((n : Int) + 7) / 8 = (((n + 7) / 8 : Nat) : Int) := by omega
  have HDV := Aside0.mk hdv
  clear hdv
  have HB1 := Aside0.mk (Below.refl w.heap.size w)
  go_enter Try.func96, Try.ntmps96
  go_wp2_with (first
    | ((with_reducible refine gate_dst (N := 10) rfl ?_); refine Kd.R_make (Kd.int .u8) w.heap.size 5 rfl (N := 10) rfl 22 _ _ rfl (((n : Int) + 7) / 8) rfl rfl Try.underlying22 (.int .u8 0) 1 info5 rfl (by decide) (by omega) 0 (ok := fun _ => True) (okp := fun _ => True) rfl (fun _ hk => hk) trivial (by omega) (by omega) HB1.out HB1.out.size ?_; intro v2 w2 ho hb hg hnew; have HO := Aside0.mk (Own.mk ho hb (Nat.le_trans HB1.out.size hg.size)); clear ho hb hg hnew))
  go_loopw [6, 12] (fun v6 v12 W => ∃ k : Nat, k ≤ n ∧ v12 = .int .i64 k ∧ Aside0 (Own (Kd.int .u8) 5 w.heap.size w W v2 (layN p n k))) (fun _ v12 _ => n - (intOf v12).toNat)
  case atStart => exact ⟨0, Nat.zero_le _, rfl, ⟨HO.out.of_cast (by rw [HDV.out, Int.toNat_natCast]; rfl)⟩⟩
  case round =>
    clear HO HDV HB1
    obtain ⟨k, hk, rfl, HO⟩ := hrel
    by_cases hlt : k < n
    · have MI := Aside0.mk (HIS.out wr HO.out.b k hlt)
      have HLL := layN_length p n k
      obtain ⟨q, hq⟩ : ∃ q, q = p k := ⟨_, rfl⟩
      have HQ := Aside0.mk hq
      rw [← hq] at MI
      clear hq
      have hkn : (k : Int) < (n : Int) := by omega
      cases q with
      | false =>
        have HE : Aside0 (layN p n (k + 1) = layN p n k) := ⟨layN_false p n k HQ.out.symm⟩
        clear HLL
        go_wp2_with (go_at_call 144; refine MI.out.mono ?_; rintro e wq ⟨rfl, rfl⟩)
        go_roundw
        case rel => exact ⟨k + 1, by omega, by go_num, ⟨HO.out.of_cast HE.out.symm⟩⟩
        case measure => simp [intOf]; omega
      | true =>
        have HE : Aside0 (layN p n (k + 1) = setBit (layN p n k) k) := ⟨layN_true p n k HQ.out.symm⟩
        obtain ⟨L, hL⟩ : ∃ L, L = layN p n k := ⟨_, rfl⟩
        rw [← hL] at HO HE HLL
        clear hL
        go_wp2_with (go_at_call 144; refine MI.out.mono ?_; rintro e wq ⟨rfl, rfl⟩)
        obtain ⟨g6, c6, e6, gb6, gl6, _⟩ := Kd.R_form HO.out.r (by omega)
        subst e6
        clear gb6 gl6
        obtain ⟨jq, hjq⟩ : ∃ j, j = k / 8 := ⟨_, rfl⟩
        obtain ⟨jr, hjr⟩ : ∃ j, j = k % 8 := ⟨_, rfl⟩
        have HJ := Aside0.mk (And.intro hjq hjr)
        have n1 : (k : Int).tdiv 8 = (jq : Int) := by rw [Int.tdiv_eq_ediv_of_nonneg (by omega)]; omega
        have n2 : (k : Int) / 8 = (jq : Int) := by omega
        have n3 : (k : Int).tmod 8 = (jr : Int) := by rw [Int.tmod_eq_emod_of_nonneg (by omega)]; omega
        have n4 : (k : Int) % 8 = (jr : Int) := by omega
        have n5 : jr < 8 := by omega
        have n6 : (0 : Int) ≤ (jq : Int) := by omega
        have n7 : (jq : Int) < (L.length : Int) := by omega
        have n8 : jq < L.length := by omega
        clear hjq hjr HLL
        obtain ⟨hx6, hf6⟩ := Kd.R_celln 0 HO.out.r (jq : Int) n6 n7
        rw [Int.toNat_natCast] at hx6 hf6
        have m1 : min jr 8 = jr := by omega
        have m2 : IntKind.u8.wrap (2 ^ jr) = 2 ^ jr := u8_pow jr n5
        have m3 : (2 : Int) ^ jr % 256 = 2 ^ jr := u8_pow jr n5
        have m4 : (0 : Int) ≤ (jr : Int) := by omega
        have m5 : (jr : Int) < 8 := by omega
        have n9 : wrap64 (jq : Int) = (jq : Int) := by unfold wrap64; omega
        refine start_ (n := 11) (S := fun W' => W'.cell? ⟨g6, jq, none⟩ = some (.int .u8 (rd L jq))) (ds := [10]) #[false, false, false, false, false, false, false, false, false, false, false] (by kernel_rfl) rfl rfl (hx6) (fun hHeld => ?_)
        refine with_tabW GL96.tab6 GL96.bits6 (fun HT_ HW_ => ?_)
        refine pure_ (i := 0) (N := some 18) (v := ?_) (a' := ?_) #[true, false, false, false, false, false, false, false, false, false, false] rfl rfl (any_of HT_.out (by kernel_rfl)) (fun _ _ _ h => h) (Or.inl ⟨by rfl, ?_⟩) ?_ ?_
        rotate_left
        · intro w'
          go_simp
          with_reducible rfl
        rotate_left
        · simp only [Act.put, List.setIfInBounds_toArray, List.set_cons_zero, List.set_cons_succ, i64_w, i32_w]
          rfl
        refine pure_ (i := 1) (N := some 19) (v := ?_) (a' := ?_) #[true, true, false, false, false, false, false, false, false, false, false] rfl rfl (any_of HT_.out (by kernel_rfl)) (fun _ _ _ h => h) (Or.inl ⟨by rfl, ?_⟩) ?_ ?_
        rotate_left
        · intro w'
          go_simp
          with_reducible rfl
        rotate_left
        · simp only [Act.put, List.setIfInBounds_toArray, List.set_cons_zero, List.set_cons_succ, i64_w, i32_w]
          rfl
        refine pure_ (i := 2) (N := some 20) (v := ?_) (a' := ?_) #[true, true, true, false, false, false, false, false, false, false, false] rfl rfl (any_of HT_.out (by kernel_rfl)) (fun _ _ _ h => h) (Or.inl ⟨by rfl, ?_⟩) ?_ ?_
        rotate_left
        · intro w'
          go_simp
          with_reducible rfl
        rotate_left
        · simp only [Act.put, List.setIfInBounds_toArray, List.set_cons_zero, List.set_cons_succ, i64_w, i32_w]
          rfl
        refine pure_ (i := 3) (N := some 21) (v := ?_) (a' := ?_) #[true, true, true, true, false, false, false, false, false, false, false] rfl rfl (any_of HT_.out (by kernel_rfl)) (fun _ _ _ h => h) (Or.inl ⟨by rfl, ?_⟩) ?_ ?_
        rotate_left
        · intro w'
          go_simp
          with_reducible rfl
        rotate_left
        · simp only [Act.put, List.setIfInBounds_toArray, List.set_cons_zero, List.set_cons_succ, i64_w, i32_w]
          rfl
        refine take_ (i := 4) (N := some 22) (v := ?_) (a' := ?_) #[true, true, true, true, true, false, false, false, false, false, false] rfl rfl (take_ofW HT_.out HW_.out (by kernel_rfl)) (fun _ _ _ h => h) (Or.inl ⟨by rfl, ?_⟩) hHeld ?_ ?_
        rotate_left
        · intro w' s0
          (try dsimp only at s0)
          (try go_split_ands)
          go_simp
          with_reducible rfl
        rotate_left
        · simp only [Act.put, List.setIfInBounds_toArray, List.set_cons_zero, List.set_cons_succ, i64_w, i32_w]
          rfl
        refine pure_ (i := 5) (N := some 23) (v := ?_) (a' := ?_) #[true, true, true, true, true, true, false, false, false, false, false] rfl rfl (any_of HT_.out (by kernel_rfl)) (fun _ _ _ h => h) (Or.inl ⟨by rfl, ?_⟩) ?_ ?_
        rotate_left
        · intro w'
          go_simp
          with_reducible rfl
        rotate_left
        · simp only [Act.put, List.setIfInBounds_toArray, List.set_cons_zero, List.set_cons_succ, i64_w, i32_w]
          rfl
        refine pure_ (i := 6) (N := some 24) (v := ?_) (a' := ?_) #[true, true, true, true, true, true, true, false, false, false, false] rfl rfl (any_of HT_.out (by kernel_rfl)) (fun _ _ _ h => h) (Or.inl ⟨by rfl, ?_⟩) ?_ ?_
        rotate_left
        · intro w'
          go_simp
          with_reducible rfl
        rotate_left
        · simp only [Act.put, List.setIfInBounds_toArray, List.set_cons_zero, List.set_cons_succ, i64_w, i32_w]
          rfl
        refine pure_ (i := 7) (N := some 25) (v := ?_) (a' := ?_) #[true, true, true, true, true, true, true, true, false, false, false] rfl rfl (any_of HT_.out (by kernel_rfl)) (fun _ _ _ h => h) (Or.inl ⟨by rfl, ?_⟩) ?_ ?_
        rotate_left
        · intro w'
          go_simp
          with_reducible rfl
        rotate_left
        · simp only [Act.put, List.setIfInBounds_toArray, List.set_cons_zero, List.set_cons_succ, i64_w, i32_w]
          rfl
        refine pure_ (i := 8) (N := some 26) (v := ?_) (a' := ?_) #[true, true, true, true, true, true, true, true, true, false, false] rfl rfl (any_of HT_.out (by kernel_rfl)) (fun _ _ _ h => h) (Or.inl ⟨by rfl, ?_⟩) ?_ ?_
        rotate_left
        · intro w'
          go_simp
          with_reducible rfl
        rotate_left
        · simp only [Act.put, List.setIfInBounds_toArray, List.set_cons_zero, List.set_cons_succ, i64_w, i32_w]
          rfl
        refine pure_ (i := 9) (N := some 27) (v := ?_) (a' := ?_) #[true, true, true, true, true, true, true, true, true, true, false] rfl rfl (any_of HT_.out (by kernel_rfl)) (fun _ _ _ h => h) (Or.inl ⟨by rfl, ?_⟩) ?_ ?_
        rotate_left
        · intro w'
          go_simp
          with_reducible rfl
        rotate_left
        · simp only [Act.put, List.setIfInBounds_toArray, List.set_cons_zero, List.set_cons_succ, i64_w, i32_w]
          rfl
        refine last_ (i := 10) (N := none) #[true, true, true, true, true, true, true, true, true, true, true] rfl rfl (one_of HT_.out (by kernel_rfl)) (by decide) (fun K hK => ?_)
        refine skip_ (w1 := ?_) (by rfl) rfl ?_ ?_
        rotate_left
        · go_simp
          rfl
        refine hK.out _ _ ?_
        clear hK K
        refine done_ (done_of HT_.out (by kernel_rfl)) ?_
        clear n9 m2
        go_wp2_with fail
        have HO5 := Aside0.mk ((HO.out.put jq (bits .or .u8 (rd L (jq : Int)) (2 ^ jr))).drew)
        go_roundw
        case rel => exact ⟨k + 1, by omega, by go_num, ⟨HO5.out.of_cast (by rw [HE.out, HJ.out.1, HJ.out.2]; rfl)⟩⟩
        case measure => simp [intOf]; omega
    · obtain rfl : k = n := by omega
      go_wp2_with fail
      go_ret
      exact ⟨_, rfl, HO.out.r, HO.out.b⟩
set_option maxRecDepth 100000 in
set_option maxHeartbeats 1600000 in
theorem lay_150 (p : Nat → Bool) (n : Nat) (hn : n ≤ 100000) (cap : Value) (w : World) (HIS : Aside0 (∀ W : World, Below w.heap.size w W → ∀ i : Nat, i < n → Calls Try.prog 150 #[.int .i64 i, cap] W fun e w' => e = .returned (.bool (p i)) ∧ W = w')) :
    Calls Try.prog 96 #[.int .i64 n, .func (.func 150) #[] #[cap]] w fun e w' => ∃ v0_ : Value, e = .returned v0_ ∧ Kd.R (Kd.int .u8) 5 w' w.heap.size (fun _ => True) v0_ (lay p n) ∧ Below w.heap.size w w' := by
  have hdv : ((n : Int) + 7) / 8 = (((n + 7) / 8 : Nat) : Int) := by omega
  have HDV := Aside0.mk hdv
  clear hdv
  have HB1 := Aside0.mk (Below.refl w.heap.size w)
  go_enter Try.func96, Try.ntmps96
  go_wp2_with (first
    | ((with_reducible refine gate_dst (N := 10) rfl ?_); refine Kd.R_make (Kd.int .u8) w.heap.size 5 rfl (N := 10) rfl 22 _ _ rfl (((n : Int) + 7) / 8) rfl rfl Try.underlying22 (.int .u8 0) 1 info5 rfl (by decide) (by omega) 0 (ok := fun _ => True) (okp := fun _ => True) rfl (fun _ hk => hk) trivial (by omega) (by omega) HB1.out HB1.out.size ?_; intro v2 w2 ho hb hg hnew; have HO := Aside0.mk (Own.mk ho hb (Nat.le_trans HB1.out.size hg.size)); clear ho hb hg hnew))
  go_loopw [6, 12] (fun v6 v12 W => ∃ k : Nat, k ≤ n ∧ v12 = .int .i64 k ∧ Aside0 (Own (Kd.int .u8) 5 w.heap.size w W v2 (layN p n k))) (fun _ v12 _ => n - (intOf v12).toNat)
  case atStart => exact ⟨0, Nat.zero_le _, rfl, ⟨HO.out.of_cast (by rw [HDV.out, Int.toNat_natCast]; rfl)⟩⟩
  case round =>
    clear HO HDV HB1
    obtain ⟨k, hk, rfl, HO⟩ := hrel
    by_cases hlt : k < n
    · have MI := Aside0.mk (HIS.out wr HO.out.b k hlt)
      have HLL := layN_length p n k
      obtain ⟨q, hq⟩ : ∃ q, q = p k := ⟨_, rfl⟩
      have HQ := Aside0.mk hq
      rw [← hq] at MI
      clear hq
      have hkn : (k : Int) < (n : Int) := by omega
      cases q with
      | false =>
        have HE : Aside0 (layN p n (k + 1) = layN p n k) := ⟨layN_false p n k HQ.out.symm⟩
        clear HLL
        go_wp2_with (go_at_call 150; refine MI.out.mono ?_; rintro e wq ⟨rfl, rfl⟩)
        go_roundw
        case rel => exact ⟨k + 1, by omega, by go_num, ⟨HO.out.of_cast HE.out.symm⟩⟩
        case measure => simp [intOf]; omega
      | true =>
        have HE : Aside0 (layN p n (k + 1) = setBit (layN p n k) k) := ⟨layN_true p n k HQ.out.symm⟩
        obtain ⟨L, hL⟩ : ∃ L, L = layN p n k := ⟨_, rfl⟩
        rw [← hL] at HO HE HLL
        clear hL
        go_wp2_with (go_at_call 150; refine MI.out.mono ?_; rintro e wq ⟨rfl, rfl⟩)
        obtain ⟨g6, c6, e6, gb6, gl6, _⟩ := Kd.R_form HO.out.r (by omega)
        subst e6
        clear gb6 gl6
        obtain ⟨jq, hjq⟩ : ∃ j, j = k / 8 := ⟨_, rfl⟩
        obtain ⟨jr, hjr⟩ : ∃ j, j = k % 8 := ⟨_, rfl⟩
        have HJ := Aside0.mk (And.intro hjq hjr)
        have n1 : (k : Int).tdiv 8 = (jq : Int) := by rw [Int.tdiv_eq_ediv_of_nonneg (by omega)]; omega
        have n2 : (k : Int) / 8 = (jq : Int) := by omega
        have n3 : (k : Int).tmod 8 = (jr : Int) := by rw [Int.tmod_eq_emod_of_nonneg (by omega)]; omega
        have n4 : (k : Int) % 8 = (jr : Int) := by omega
        have n5 : jr < 8 := by omega
        have n6 : (0 : Int) ≤ (jq : Int) := by omega
        have n7 : (jq : Int) < (L.length : Int) := by omega
        have n8 : jq < L.length := by omega
        clear hjq hjr HLL
        obtain ⟨hx6, hf6⟩ := Kd.R_celln 0 HO.out.r (jq : Int) n6 n7
        rw [Int.toNat_natCast] at hx6 hf6
        have m1 : min jr 8 = jr := by omega
        have m2 : IntKind.u8.wrap (2 ^ jr) = 2 ^ jr := u8_pow jr n5
        have m3 : (2 : Int) ^ jr % 256 = 2 ^ jr := u8_pow jr n5
        have m4 : (0 : Int) ≤ (jr : Int) := by omega
        have m5 : (jr : Int) < 8 := by omega
        have n9 : wrap64 (jq : Int) = (jq : Int) := by unfold wrap64; omega
        refine start_ (n := 11) (S := fun W' => W'.cell? ⟨g6, jq, none⟩ = some (.int .u8 (rd L jq))) (ds := [10]) #[false, false, false, false, false, false, false, false, false, false, false] (by kernel_rfl) rfl rfl (hx6) (fun hHeld => ?_)
        refine with_tabW GL96.tab6 GL96.bits6 (fun HT_ HW_ => ?_)
        refine pure_ (i := 0) (N := some 18) (v := ?_) (a' := ?_) #[true, false, false, false, false, false, false, false, false, false, false] rfl rfl (any_of HT_.out (by kernel_rfl)) (fun _ _ _ h => h) (Or.inl ⟨by rfl, ?_⟩) ?_ ?_
        rotate_left
        · intro w'
          go_simp
          with_reducible rfl
        rotate_left
        · simp only [Act.put, List.setIfInBounds_toArray, List.set_cons_zero, List.set_cons_succ, i64_w, i32_w]
          rfl
        refine pure_ (i := 1) (N := some 19) (v := ?_) (a' := ?_) #[true, true, false, false, false, false, false, false, false, false, false] rfl rfl (any_of HT_.out (by kernel_rfl)) (fun _ _ _ h => h) (Or.inl ⟨by rfl, ?_⟩) ?_ ?_
        rotate_left
        · intro w'
          go_simp
          with_reducible rfl
        rotate_left
        · simp only [Act.put, List.setIfInBounds_toArray, List.set_cons_zero, List.set_cons_succ, i64_w, i32_w]
          rfl
        refine pure_ (i := 2) (N := some 20) (v := ?_) (a' := ?_) #[true, true, true, false, false, false, false, false, false, false, false] rfl rfl (any_of HT_.out (by kernel_rfl)) (fun _ _ _ h => h) (Or.inl ⟨by rfl, ?_⟩) ?_ ?_
        rotate_left
        · intro w'
          go_simp
          with_reducible rfl
        rotate_left
        · simp only [Act.put, List.setIfInBounds_toArray, List.set_cons_zero, List.set_cons_succ, i64_w, i32_w]
          rfl
        refine pure_ (i := 3) (N := some 21) (v := ?_) (a' := ?_) #[true, true, true, true, false, false, false, false, false, false, false] rfl rfl (any_of HT_.out (by kernel_rfl)) (fun _ _ _ h => h) (Or.inl ⟨by rfl, ?_⟩) ?_ ?_
        rotate_left
        · intro w'
          go_simp
          with_reducible rfl
        rotate_left
        · simp only [Act.put, List.setIfInBounds_toArray, List.set_cons_zero, List.set_cons_succ, i64_w, i32_w]
          rfl
        refine take_ (i := 4) (N := some 22) (v := ?_) (a' := ?_) #[true, true, true, true, true, false, false, false, false, false, false] rfl rfl (take_ofW HT_.out HW_.out (by kernel_rfl)) (fun _ _ _ h => h) (Or.inl ⟨by rfl, ?_⟩) hHeld ?_ ?_
        rotate_left
        · intro w' s0
          (try dsimp only at s0)
          (try go_split_ands)
          go_simp
          with_reducible rfl
        rotate_left
        · simp only [Act.put, List.setIfInBounds_toArray, List.set_cons_zero, List.set_cons_succ, i64_w, i32_w]
          rfl
        refine pure_ (i := 5) (N := some 23) (v := ?_) (a' := ?_) #[true, true, true, true, true, true, false, false, false, false, false] rfl rfl (any_of HT_.out (by kernel_rfl)) (fun _ _ _ h => h) (Or.inl ⟨by rfl, ?_⟩) ?_ ?_
        rotate_left
        · intro w'
          go_simp
          with_reducible rfl
        rotate_left
        · simp only [Act.put, List.setIfInBounds_toArray, List.set_cons_zero, List.set_cons_succ, i64_w, i32_w]
          rfl
        refine pure_ (i := 6) (N := some 24) (v := ?_) (a' := ?_) #[true, true, true, true, true, true, true, false, false, false, false] rfl rfl (any_of HT_.out (by kernel_rfl)) (fun _ _ _ h => h) (Or.inl ⟨by rfl, ?_⟩) ?_ ?_
        rotate_left
        · intro w'
          go_simp
          with_reducible rfl
        rotate_left
        · simp only [Act.put, List.setIfInBounds_toArray, List.set_cons_zero, List.set_cons_succ, i64_w, i32_w]
          rfl
        refine pure_ (i := 7) (N := some 25) (v := ?_) (a' := ?_) #[true, true, true, true, true, true, true, true, false, false, false] rfl rfl (any_of HT_.out (by kernel_rfl)) (fun _ _ _ h => h) (Or.inl ⟨by rfl, ?_⟩) ?_ ?_
        rotate_left
        · intro w'
          go_simp
          with_reducible rfl
        rotate_left
        · simp only [Act.put, List.setIfInBounds_toArray, List.set_cons_zero, List.set_cons_succ, i64_w, i32_w]
          rfl
        refine pure_ (i := 8) (N := some 26) (v := ?_) (a' := ?_) #[true, true, true, true, true, true, true, true, true, false, false] rfl rfl (any_of HT_.out (by kernel_rfl)) (fun _ _ _ h => h) (Or.inl ⟨by rfl, ?_⟩) ?_ ?_
        rotate_left
        · intro w'
          go_simp
          with_reducible rfl
        rotate_left
        · simp only [Act.put, List.setIfInBounds_toArray, List.set_cons_zero, List.set_cons_succ, i64_w, i32_w]
          rfl
        refine pure_ (i := 9) (N := some 27) (v := ?_) (a' := ?_) #[true, true, true, true, true, true, true, true, true, true, false] rfl rfl (any_of HT_.out (by kernel_rfl)) (fun _ _ _ h => h) (Or.inl ⟨by rfl, ?_⟩) ?_ ?_
        rotate_left
        · intro w'
          go_simp
          with_reducible rfl
        rotate_left
        · simp only [Act.put, List.setIfInBounds_toArray, List.set_cons_zero, List.set_cons_succ, i64_w, i32_w]
          rfl
        refine last_ (i := 10) (N := none) #[true, true, true, true, true, true, true, true, true, true, true] rfl rfl (one_of HT_.out (by kernel_rfl)) (by decide) (fun K hK => ?_)
        refine skip_ (w1 := ?_) (by rfl) rfl ?_ ?_
        rotate_left
        · go_simp
          rfl
        refine hK.out _ _ ?_
        clear hK K
        refine done_ (done_of HT_.out (by kernel_rfl)) ?_
        clear n9 m2
        go_wp2_with fail
        have HO5 := Aside0.mk ((HO.out.put jq (bits .or .u8 (rd L (jq : Int)) (2 ^ jr))).drew)
        go_roundw
        case rel => exact ⟨k + 1, by omega, by go_num, ⟨HO5.out.of_cast (by rw [HE.out, HJ.out.1, HJ.out.2]; rfl)⟩⟩
        case measure => simp [intOf]; omega
    · obtain rfl : k = n := by omega
      go_wp2_with fail
      go_ret
      exact ⟨_, rfl, HO.out.r, HO.out.b⟩
end Go.Proofs.Ytlmcefhpnfoahaa.P
end

section
namespace Go.Proofs.Ytlmcefhpnfoahaa.P
open Go.RowKit Go.Proofs.YtlmcefhpnfoahaaW.PrintWords Go.Proofs.YtlmcefhpnfoahaaW.PrintLast Go.Proofs.YtlmcefhpnfoahaaW.PrintMore
set_option linter.unusedVariables false
set_option linter.unusedSimpArgs false

set_option maxRecDepth 100000 in
set_option maxHeartbeats 1600000 in
theorem clo97 (W : World) (b : Nat) (A : Option Addr) (c : Nat) (l : List S39) (hb : W.cell? ⟨b, 0, none⟩ = some (.slice A l.length c)) (hC : Kd.C k39 W A l.length l) (i : Nat) (hi : i < l.length) :
    Calls Try.prog 97 #[.int .i64 i, .pointer (some ⟨b, 0, none⟩)] W fun e w' => e = .returned (.bool ((rd_T39 l i).f0 == 0)) ∧ W = w' := by
  obtain ⟨ad, e, h0, h1, h2⟩ := at_T39 hC (i : Int) (by omega) (by omega)
  subst e
  rw [Int.toNat_natCast] at h0 h1 h2
  go_enter Try.func97, Try.ntmps97
  go_wp2
  go_ret
  exact ⟨rfl, rfl⟩
set_option maxRecDepth 100000 in
set_option maxHeartbeats 1600000 in
theorem clo150 (W : World) (b : Nat) (A : Option Addr) (c : Nat) (l : List S39) (hb : W.cell? ⟨b, 0, none⟩ = some (.slice A l.length c)) (hC : Kd.C k39 W A l.length l) (i : Nat) (hi : i < l.length) :
    Calls Try.prog 150 #[.int .i64 i, .pointer (some ⟨b, 0, none⟩)] W fun e w' => e = .returned (.bool ((rd_T39 l i).f1 == 1)) ∧ W = w' := by
  obtain ⟨ad, e, h0, h1, h2⟩ := at_T39 hC (i : Int) (by omega) (by omega)
  subst e
  rw [Int.toNat_natCast] at h0 h1 h2
  go_enter Try.func150, Try.ntmps150
  go_wp2
  go_ret
  exact ⟨rfl, rfl⟩
set_option maxRecDepth 100000 in
set_option maxHeartbeats 1600000 in
theorem clo144 (W : World) (b : Nat) (A : Option Addr) (c : Nat) (l : List Bool) (hb : W.cell? ⟨b, 0, none⟩ = some (.slice A l.length c)) (hC : Kd.C Kd.bool W A l.length l) (i : Nat) (hi : i < l.length) :
    Calls Try.prog 144 #[.int .i64 i, .pointer (some ⟨b, 0, none⟩)] W fun e w' => e = .returned (.bool (rdOf false l (i : Int))) ∧ W = w' := by
  obtain ⟨ad, e, h0⟩ := Kd.at_bool hC (i : Int) (by omega) (by omega)
  subst e
  rw [Int.toNat_natCast] at h0
  go_enter Try.func144, Try.ntmps144
  go_wp2
  go_ret
  exact ⟨rfl, rfl⟩
end Go.Proofs.Ytlmcefhpnfoahaa.P
end

section
namespace Go.Proofs.Ytlmcefhpnfoahaa.P
open Go.RowKit Go.Proofs.YtlmcefhpnfoahaaW.PrintWords Go.Proofs.YtlmcefhpnfoahaaW.PrintLast Go.Proofs.YtlmcefhpnfoahaaW.PrintMore
attribute [local go_sem] max2_int min2_int max_two min_two max_three min_three max_four min_four   -- for this text's walks alone
set_option linter.unusedVariables false
set_option linter.unusedSimpArgs false

def bytes_Equal.f (l0 : List Int) (l1 : List Int) : Option (Bool) := some ((strOfNums l0).toList == (strOfNums l1).toList)
set_option maxHeartbeats 8000000 in
set_option maxRecDepth 100000 in
theorem bytes_Equal.calls (A0 : Option Addr) (c0 : Nat) (l0 : List Int) (A1 : Option Addr) (c1 : Nat) (l1 : List Int) (r : Bool) (w : World) (hr0 : Kd.C (Kd.int .u8) w A0 l0.length l0) (hc0 : l0.length ≤ c0) (hr1 : Kd.C (Kd.int .u8) w A1 l1.length l1) (hc1 : l1.length ≤ c1) (h : bytes_Equal.f l0 l1 = some r) :
    Calls Try.prog 143 #[.slice A0 l0.length c0, .slice A1 l1.length c1] w fun e w' => e = .returned (.bool r) ∧ Drawn0 w w' := by
  have HR0 := Aside0.mk hr0
  have HC0 := Aside0.mk hc0
  clear hr0 hc0
  have HR1 := Aside0.mk hr1
  have HC1 := Aside0.mk hc1
  clear hr1 hc1
  have H : (some ((strOfNums l0).toList == (strOfNums l1).toList)) = some r := h
  clear h
  obtain rfl := Option.some.inj H
  have hcv3 := Kd.C_string (P := Try.prog) (A := A0) (c := c0) Try.underlying22 Try.underlying5 Try.underlying9 HR0.out
  have hcv4 := Kd.C_string (P := Try.prog) (A := A1) (c := c1) Try.underlying22 Try.underlying5 Try.underlying9 HR1.out
  go_enter Try.func143, Try.ntmps143
  go_wp2
  go_ret
  exact ⟨by first | rfl | (simp; done) | (simp [*]; done), by repeat (first | exact Drawn0.refl _ | apply Drawn0.step)⟩

end Go.Proofs.Ytlmcefhpnfoahaa.P
end

section
namespace Go.Proofs.Ytlmcefhpnfoahaa.P
open Go.RowKit Go.Proofs.YtlmcefhpnfoahaaW.PrintWords Go.Proofs.YtlmcefhpnfoahaaW.PrintLast Go.Proofs.YtlmcefhpnfoahaaW.PrintMore
set_option linter.unusedVariables false
set_option linter.unusedSimpArgs false

theorem u8_and1 (c : Int) (h0 : 0 ≤ c) (h1 : c ≤ 255) : Go.bits .and .u8 c 1 = c % 2 := by
  have h : ∀ c : Nat, c < 256 → Go.bits .and .u8 (c : Int) 1 = (c : Int) % 2 := by decide +kernel
  have h2 := h c.toNat (by omega)
  rw [Int.toNat_of_nonneg h0] at h2
  exact h2
theorem u8_shr (c : Int) (j : Nat) (h0 : 0 ≤ c) (h1 : c ≤ 255) : 0 ≤ c / 2 ^ j ∧ c / 2 ^ j ≤ 255 := by
  have hp : (0 : Int) < 2 ^ j := Int.pow_pos (by decide)
  refine ⟨Int.ediv_nonneg h0 (by omega), ?_⟩
  have := Int.ediv_le_self (2 ^ j) h0
  omega
theorem Own.putB {B : Nat} {w0 W : World} {g n c : Nat} {xs : List Bool} (h : Own Kd.bool 4 B w0 W (.slice (some ⟨g, 0, none⟩) n c) xs) (i : Nat) (y : Bool) : Own Kd.bool 4 B w0 (W.setCell ⟨g, i, none⟩ (.bool y)) (.slice (some ⟨g, 0, none⟩) n c) (xs.set i y) := by
  have h1 := Kd.R_putn h.r (i : Int) y
  rw [Int.toNat_natCast] at h1
  have hg := Kd.R_base h.r g rfl
  exact ⟨h1, h.b.setCell hg _, by have := h.s; simpa [World.setCell] using this⟩
theorem Box.putC {W : World} {g b n c : Nat} {cs : Array Value} {t : TypeId} {fr : Nat × Nat} (h : Box W g cs t fr (.slice (some ⟨b, 0, none⟩) n c)) (j : Nat) (y : Value) : Box (W.setCell ⟨b, j, none⟩ y) g cs t fr (.slice (some ⟨b, 0, none⟩) n c) :=
  ⟨(Below.heap_setCell W ⟨b, j, none⟩ y g (fun e => h.n (by rw [e]; rfl))).trans h.h, h.n⟩
/-- The first n bits, those up to k alone. -/
def bitsK (l : List Int) (n k : Nat) : List Bool := (List.range n).map fun i => decide (i < k) && bitAt l i
theorem bitsK_length (l : List Int) (n k : Nat) : (bitsK l n k).length = n := by simp [bitsK]
theorem bitsK_zero (l : List Int) (n : Nat) : bitsK l n 0 = List.replicate n false := by
  unfold bitsK
  apply List.ext_getElem
  · simp
  · intro i h1 h2; simp
theorem bitsK_succ (l : List Int) (n k : Nat) (h : k < n) : (bitsK l n k).set k (bitAt l k) = bitsK l n (k + 1) := by
  unfold bitsK
  apply List.ext_getElem
  · simp
  · intro i h1 h2
    rw [List.getElem_set]
    by_cases e : k = i
    · subst e; simp
    · have : (i < k + 1) ↔ (i < k) := by omega
      simp [e, this]
theorem bitsK_all (l : List Int) (n : Nat) : bitsK l n n = (List.range n).map (bitAt l) := by
  unfold bitsK
  apply List.map_congr_left
  intro i hi
  simp [List.mem_range.mp hi]
theorem bits_rd (l : List Int) (n i : Nat) (h : i < n) : rdOf false ((List.range n).map (bitAt l)) (i : Int) = bitAt l i := by
  simp [rdOf, List.getD_eq_getElem?_getD, h]
theorem lay_loose (l : List Int) (n : Nat) (hb : ∀ x ∈ l, isByte x = true) (hs : (n + 7) / 8 ≤ l.length) : ((strOfNums (lay (bitAt l) n)).toList == (strOfNums (l.take ((n + 7) / 8))).toList) = !loose l n := by
  have htl : (l.take ((n + 7) / 8)).length = (n + 7) / 8 := by rw [List.length_take]; omega
  have hbt : ∀ j, j < 8 * ((n + 7) / 8) → bitAt (l.take ((n + 7) / 8)) j = bitAt l j := fun j hj => by
    have := bitAt_append (l.take ((n + 7) / 8)) (l.drop ((n + 7) / 8)) j (by omega)
    rw [List.take_append_drop] at this
    exact this.symm
  have hby : ∀ x ∈ l.take ((n + 7) / 8), isByte x = true := fun x hx => hb x (List.mem_of_mem_take hx)
  cases hq : loose l n with
  | false =>
    have : lay (bitAt l) n = l.take ((n + 7) / 8) := by
      apply lay_of _ _ hby htl
      · intro j hj hj2
        rw [htl] at hj2
        rw [hbt j hj2]
        unfold loose at hq
        rw [List.any_eq_false] at hq
        have := hq (j - n) (List.mem_range.mpr (by omega))
        rw [show n + (j - n) = j by omega] at this
        simpa using this
      · intro j hj
        exact (hbt j (by omega)).symm
    rw [this]; simp
  | true =>
    have hne : lay (bitAt l) n ≠ l.take ((n + 7) / 8) := by
      intro e
      unfold loose at hq
      rw [List.any_eq_true] at hq
      obtain ⟨j, hj, h2⟩ := hq
      have hj' := List.mem_range.mp hj
      have := lay_bit (bitAt l) n (n + j)
      rw [e, hbt (n + j) (by omega), h2] at this
      simp at this
      omega
    rw [Bool.not_true, beq_eq_false_iff_ne]
    intro e
    apply hne
    have e2 : strOfNums (lay (bitAt l) n) = strOfNums (l.take ((n + 7) / 8)) := by
      rw [ByteArray.toList_eq, ByteArray.toList_eq] at e
      exact WideShapes.bytes_inj e
    have e3 := congrArg bytesOf e2
    rwa [bytesOf_strOfNums _ (lay_bytes _ _), bytesOf_strOfNums _ hby] at e3
def GC101.T8 : Bool × List (List Nat × List Nat) := (true, [([], []), ([], []), ([], []), ([], []), ([3], [3]), ([2, 4], [2, 4]), ([5], [5]), ([], []), ([7], [7]), ([6, 8], [6, 8]), ([9], [9]), ([10], [10]), ([0, 1, 0, 1, 2, 3, 4, 5, 6, 7, 8, 9, 10, 11], [0, 1]), ([12, 11, 0, 1, 2, 3, 4, 5, 6, 7, 8, 9, 10, 11], [11, 12])])
def GC101.B8 : List Nat := [0, 0, 0, 0, 8, 28, 60, 0, 128, 508, 1020, 2044, 4095, 8191]
theorem GC101.tab8 : rtab .any (opsOf Try.f101 8) = GC101.T8 := by kernel_rfl
theorem GC101.bits8 : waitsOk GC101.T8.2 GC101.B8 = true := by kernel_rfl
def GC101.T10 : Bool × List (List Nat × List Nat) := (true, [([], []), ([], []), ([0, 1], [0, 1]), ([], []), ([], []), ([3, 4], [3, 4]), ([2, 5, 2], [2, 5]), ([6], [6])])
def GC101.B10 : List Nat := [0, 0, 3, 0, 0, 24, 63, 127]
theorem GC101.tab10 : rtab .any (opsOf Try.f101 10) = GC101.T10 := by kernel_rfl
theorem GC101.bits10 : waitsOk GC101.T10.2 GC101.B10 = true := by kernel_rfl
def GC101.T12 : Bool × List (List Nat × List Nat) := (true, [([], []), ([], []), ([], []), ([1, 2], [1, 2]), ([0, 0], [0]), ([3, 4, 0, 1, 2, 3, 4], [3]), ([5, 0, 1, 2, 3, 4, 5], [])])
def GC101.B12 : List Nat := [0, 0, 0, 6, 1, 31, 63]
theorem GC101.tab12 : rtab .any (opsOf Try.f101 12) = GC101.T12 := by kernel_rfl
theorem GC101.bits12 : waitsOk GC101.T12.2 GC101.B12 = true := by kernel_rfl
set_option maxRecDepth 100000 in
set_option maxHeartbeats 1600000 in
theorem take_short (A : Option Addr) (c : Nat) (l : List Int) (n : Nat) (w : World) (hn : n ≤ 100000) (hs : l.length < (n + 7) / 8) :
    Calls Try.prog 101 #[.slice A l.length c, .int .i64 n] w fun e w' => e = .returned (.tuple #[.slice none 0 0, .slice none 0 0, .int .i64 20]) ∧ w = w' := by
  obtain ⟨N, hN⟩ : ∃ N, N = (n + 7) / 8 := ⟨_, rfl⟩
  have hdv : ((n : Int) + 7) / 8 = (N : Int) := by omega
  have hlt : (l.length : Int) < (N : Int) := by omega
  clear hN
  go_enter Try.func101, Try.ntmps101
  go_wp2
  go_ret3
  exact ⟨rfl, rfl⟩
/-- What take leaves where the bytes suffice: q: is a bit behind the last one set? -/
def TakePost (A : Option Addr) (l : List Int) (n : Nat) (w : World) (q : Bool) (e : Ending) (w' : World) : Prop :=
  (q = true ∧ e = .returned (.tuple #[.slice none 0 0, .slice none 0 0, .int .i64 21]) ∧ Below w.heap.size w w') ∨
  (q = false ∧ ∃ v A' c', e = .returned (.tuple #[v, .slice A' (l.length - (n + 7) / 8) c', .int .i64 0]) ∧ l.length - (n + 7) / 8 ≤ c' ∧ Own Kd.bool 4 w.heap.size w w' v ((List.range n).map (bitAt l)) ∧
    ∀ W : World, Kd.C (Kd.int .u8) W A l.length l → Kd.C (Kd.int .u8) W A' (l.length - (n + 7) / 8) (l.drop ((n + 7) / 8)))
set_option maxRecDepth 100000 in
set_option maxHeartbeats 3200000 in
theorem take_any (A : Option Addr) (c : Nat) (l : List Int) (n : Nat) (w : World) (hn : n ≤ 100000) (hll : l.length ≤ 100000000) (hr : Kd.C (Kd.int .u8) w A l.length l) (hc : l.length ≤ c) (hb : ∀ x ∈ l, isByte x = true) (hs : (n + 7) / 8 ≤ l.length) :
    Calls Try.prog 101 #[.slice A l.length c, .int .i64 n] w (TakePost A l n w (loose l n)) := by
  obtain ⟨q, hq⟩ : ∃ q, q = loose l n := ⟨_, rfl⟩
  have HQ := Aside0.mk (lay_loose l n hb hs)
  rw [← hq] at HQ ⊢
  obtain ⟨N, hN⟩ : ∃ N, N = (n + 7) / 8 := ⟨_, rfl⟩
  have hdv : ((n : Int) + 7) / 8 = (N : Int) := by omega
  have hge : (N : Int) ≤ (l.length : Int) := by omega
  have HNN := Aside0.mk hN
  have HR := Aside0.mk hr
  have HBY := Aside0.mk hb
  have hN8 : n ≤ 8 * N := by omega
  have hNl : N ≤ l.length := by omega
  have HB1 := Aside0.mk (Below.refl w.heap.size w)
  have kc5 : ∀ W : World, (Instr.slice 22 (.slice A l.length c) none (some (.int .i64 (N : Int))) none).run Try.prog W = .ok (.slice A N c) W := by
    obtain ⟨i0, h0, hzz⟩ := Option.map_eq_some_iff.1 info5
    intro W
    rw [Go.Proofs.YtlmcefhpnfoahaaW.PrintWords.cut_to 22 5 .i64 Try.underlying22 h0 A l.length c (N : Int) (by omega) hge hc W, Int.toNat_natCast]
  obtain ⟨A9, n9, c9, kc3, hn9, hnc9, KC9⟩ := cut_from A l.length c l (N : Int) rfl (by omega) hge hc
  rw [Int.toNat_natCast] at hn9 KC9
  have HC9 := Aside0.mk KC9
  have HN9 := Aside0.mk hn9
  clear hq hN hr hb hs KC9 hn9
  go_enter Try.func101, Try.ntmps101
  go_wp2_with (first
    | ((with_reducible refine gate_dst (N := 18) rfl ?_); refine Kd.R_make Kd.bool w.heap.size 4 rfl (N := 18) rfl 121 _ _ rfl (n : Int) rfl rfl Try.underlying121 (.bool false) 1 info4 rfl (by decide) (by omega) false (ok := fun _ => True) (okp := fun _ => True) rfl (fun _ hk => hk) trivial (by omega) (by omega) HB1.out HB1.out.size ?_; intro v2 w2 ho hb hg hnew; have HO := Aside0.mk (Own.mk ho hb (Nat.le_trans HB1.out.size hg.size)); clear ho hb hg hnew; obtain ⟨A2, n2, c2, e2, hn2, hnc2, _⟩ := HO.out.sl'; have BX0 := Aside0.mk (Box.made HO.out #[v2] 121); have hn3 : n = n2 := (hn2.out.trans (by simp)).symm; subst e2; subst hn3; clear hn2))
  go_loopw [9, 21] (fun v9 v21 W => ∃ k : Nat, k ≤ n ∧ v21 = .int .i64 k ∧ Aside0 (Own Kd.bool 4 w.heap.size w W (.slice A2 n c2) (bitsK l n k)) ∧ Aside0 (Box W w2.heap.size #[.slice A2 n c2] 121 (0, 0) (.slice A2 n c2))) (fun _ v21 _ => n - (intOf v21).toNat)
  case atStart => exact ⟨0, Nat.zero_le _, rfl, ⟨(HO.out.alloc _).of_cast (by rw [bitsK_zero, Int.toNat_natCast])⟩, BX0⟩
  case round =>
    clear HO BX0 HB1
    obtain ⟨k, hk, rfl, HO, BX⟩ := hrel
    by_cases hlt : k < n
    · have hkn : (k : Int) < (n : Int) := by omega
      obtain ⟨jq, hjq⟩ : ∃ j, j = k / 8 := ⟨_, rfl⟩
      obtain ⟨jr, hjr⟩ : ∃ j, j = k % 8 := ⟨_, rfl⟩
      obtain ⟨ad, e, hx⟩ := C_rd (Kd.C_below HR.out HO.out.b) jq (by omega)
      cases e
      obtain ⟨g6, c6, e6, _, _, cells, hcs⟩ := Kd.R_form HO.out.r (by rw [bitsK_length]; omega)
      injection e6 with e61 e62 e63
      subst e61
      clear e62 e63
      obtain ⟨hx6, _⟩ := Kd.R_celln false HO.out.r (k : Int) (by omega) hkn
      rw [Int.toNat_natCast] at hx6
      have hf6 := blk_frozen hcs k
      have hbx := BX.out.cell 0 rfl
      obtain ⟨C, hC⟩ : ∃ C, C = rd l (jq : Int) := ⟨_, rfl⟩
      have HB : Aside0 (bitAt l k = (C / 2 ^ jr % 2 == 1)) := ⟨by unfold bitAt; rw [hC, hjq, hjr]⟩
      have hc0 := rd_isByte HBY.out jq (by omega)
      rw [← hC] at hx hc0
      have hs := u8_shr C jr hc0.1 hc0.2
      have n1 : (k : Int).tdiv 8 = (jq : Int) := by rw [Int.tdiv_eq_ediv_of_nonneg (by omega)]; omega
      have n2 : (k : Int) / 8 = (jq : Int) := by omega
      have n3 : (k : Int).tmod 8 = (jr : Int) := by rw [Int.tmod_eq_emod_of_nonneg (by omega)]; omega
      have n4 : (k : Int) % 8 = (jr : Int) := by omega
      have n5 : jr < 8 := by omega
      have n6 : (0 : Int) ≤ (jq : Int) := by omega
      have n7 : (jq : Int) < (l.length : Int) := by omega
      have m1 : min jr 8 = jr := by omega
      have m4 : (0 : Int) ≤ (jr : Int) := by omega
      have m5 : (jr : Int) < 8 := by omega
      have m6 : Go.bits .and .u8 (C / 2 ^ jr) 1 = C / 2 ^ jr % 2 := u8_and1 _ hs.1 hs.2
      have m8 : (0 : Int) ≤ (k : Int) := by omega
      have m7 : wrap64 (jq : Int) = (jq : Int) := by unfold wrap64; omega
      clear hjq hjr hC hc0 hs hcs
      go_wp2_with fail
      refine start_ (n := 14) (S := fun W' => W'.cell? ⟨w2.heap.size, 0, none⟩ = some (.slice (some ⟨g6, 0, none⟩) n c2) ∧ W'.cell? (ad.add jq) = some (.int .u8 C)) (ds := [13]) #[false, false, false, false, false, false, false, false, false, false, false, false, false, false] (by kernel_rfl) rfl rfl (⟨hbx, hx⟩) (fun hHeld => ?_)
      refine with_tabW GC101.tab8 GC101.bits8 (fun HT_ HW_ => ?_)
      refine take_ (i := 0) (N := some 24) (v := ?_) (a' := ?_) #[true, false, false, false, false, false, false, false, false, false, false, false, false, false] rfl rfl (take_ofW HT_.out HW_.out (by kernel_rfl)) (fun _ _ _ h => h) (Or.inl ⟨by rfl, ?_⟩) hHeld ?_ ?_
      rotate_left
      · intro w' s0
        (try dsimp only at s0)
        (try go_split_ands)
        go_simp
        with_reducible rfl
      rotate_left
      · simp only [Act.put, List.setIfInBounds_toArray, List.set_cons_zero, List.set_cons_succ, i64_w, i32_w]
        rfl
      refine pure_ (i := 1) (N := some 25) (v := ?_) (a' := ?_) #[true, true, false, false, false, false, false, false, false, false, false, false, false, false] rfl rfl (any_of HT_.out (by kernel_rfl)) (fun _ _ _ h => h) (Or.inl ⟨by rfl, ?_⟩) ?_ ?_
      rotate_left
      · intro w'
        go_simp
        with_reducible rfl
      rotate_left
      · simp only [Act.put, List.setIfInBounds_toArray, List.set_cons_zero, List.set_cons_succ, i64_w, i32_w]
        rfl
      refine pure_ (i := 2) (N := some 26) (v := ?_) (a' := ?_) #[true, true, true, false, false, false, false, false, false, false, false, false, false, false] rfl rfl (any_of HT_.out (by kernel_rfl)) (fun _ _ _ h => h) (Or.inl ⟨by rfl, ?_⟩) ?_ ?_
      rotate_left
      · intro w'
        go_simp
        with_reducible rfl
      rotate_left
      · simp only [Act.put, List.setIfInBounds_toArray, List.set_cons_zero, List.set_cons_succ, i64_w, i32_w]
        rfl
      refine pure_ (i := 3) (N := some 27) (v := ?_) (a' := ?_) #[true, true, true, true, false, false, false, false, false, false, false, false, false, false] rfl rfl (any_of HT_.out (by kernel_rfl)) (fun _ _ _ h => h) (Or.inl ⟨by rfl, ?_⟩) ?_ ?_
      rotate_left
      · intro w'
        go_simp
        with_reducible rfl
      rotate_left
      · simp only [Act.put, List.setIfInBounds_toArray, List.set_cons_zero, List.set_cons_succ, i64_w, i32_w]
        rfl
      refine pure_ (i := 4) (N := some 28) (v := ?_) (a' := ?_) #[true, true, true, true, true, false, false, false, false, false, false, false, false, false] rfl rfl (any_of HT_.out (by kernel_rfl)) (fun _ _ _ h => h) (Or.inl ⟨by rfl, ?_⟩) ?_ ?_
      rotate_left
      · intro w'
        go_simp
        with_reducible rfl
      rotate_left
      · simp only [Act.put, List.setIfInBounds_toArray, List.set_cons_zero, List.set_cons_succ, i64_w, i32_w]
        rfl
      refine pure_ (i := 5) (N := some 29) (v := ?_) (a' := ?_) #[true, true, true, true, true, true, false, false, false, false, false, false, false, false] rfl rfl (any_of HT_.out (by kernel_rfl)) (fun _ _ _ h => h) (Or.inl ⟨by rfl, ?_⟩) ?_ ?_
      rotate_left
      · intro w'
        go_simp
        with_reducible rfl
      rotate_left
      · simp only [Act.put, List.setIfInBounds_toArray, List.set_cons_zero, List.set_cons_succ, i64_w, i32_w]
        rfl
      refine take_ (i := 6) (N := some 30) (v := ?_) (a' := ?_) #[true, true, true, true, true, true, true, false, false, false, false, false, false, false] rfl rfl (take_ofW HT_.out HW_.out (by kernel_rfl)) (fun _ _ _ h => h) (Or.inl ⟨by rfl, ?_⟩) hHeld ?_ ?_
      rotate_left
      · intro w' s0
        (try dsimp only at s0)
        (try go_split_ands)
        go_simp
        with_reducible rfl
      rotate_left
      · simp only [Act.put, List.setIfInBounds_toArray, List.set_cons_zero, List.set_cons_succ, i64_w, i32_w]
        rfl
      refine pure_ (i := 7) (N := some 31) (v := ?_) (a' := ?_) #[true, true, true, true, true, true, true, true, false, false, false, false, false, false] rfl rfl (any_of HT_.out (by kernel_rfl)) (fun _ _ _ h => h) (Or.inl ⟨by rfl, ?_⟩) ?_ ?_
      rotate_left
      · intro w'
        go_simp
        with_reducible rfl
      rotate_left
      · simp only [Act.put, List.setIfInBounds_toArray, List.set_cons_zero, List.set_cons_succ, i64_w, i32_w]
        rfl
      refine pure_ (i := 8) (N := some 32) (v := ?_) (a' := ?_) #[true, true, true, true, true, true, true, true, true, false, false, false, false, false] rfl rfl (any_of HT_.out (by kernel_rfl)) (fun _ _ _ h => h) (Or.inl ⟨by rfl, ?_⟩) ?_ ?_
      rotate_left
      · intro w'
        go_simp
        with_reducible rfl
      rotate_left
      · simp only [Act.put, List.setIfInBounds_toArray, List.set_cons_zero, List.set_cons_succ, i64_w, i32_w]
        rfl
      refine pure_ (i := 9) (N := some 33) (v := ?_) (a' := ?_) #[true, true, true, true, true, true, true, true, true, true, false, false, false, false] rfl rfl (any_of HT_.out (by kernel_rfl)) (fun _ _ _ h => h) (Or.inl ⟨by rfl, ?_⟩) ?_ ?_
      rotate_left
      · intro w'
        go_simp
        with_reducible rfl
      rotate_left
      · simp only [Act.put, List.setIfInBounds_toArray, List.set_cons_zero, List.set_cons_succ, i64_w, i32_w]
        rfl
      refine pure_ (i := 10) (N := some 34) (v := ?_) (a' := ?_) #[true, true, true, true, true, true, true, true, true, true, true, false, false, false] rfl rfl (any_of HT_.out (by kernel_rfl)) (fun _ _ _ h => h) (Or.inl ⟨by rfl, ?_⟩) ?_ ?_
      rotate_left
      · intro w'
        go_simp
        with_reducible rfl
      rotate_left
      · simp only [Act.put, List.setIfInBounds_toArray, List.set_cons_zero, List.set_cons_succ, i64_w, i32_w]
        rfl
      refine pure_ (i := 11) (N := some 35) (v := ?_) (a' := ?_) #[true, true, true, true, true, true, true, true, true, true, true, true, false, false] rfl rfl (any_of HT_.out (by kernel_rfl)) (fun _ _ _ h => h) (Or.inl ⟨by rfl, ?_⟩) ?_ ?_
      rotate_left
      · intro w'
        go_simp
        with_reducible rfl
      rotate_left
      · simp only [Act.put, List.setIfInBounds_toArray, List.set_cons_zero, List.set_cons_succ, i64_w, i32_w]
        rfl
      refine pure_ (i := 12) (N := some 36) (v := ?_) (a' := ?_) #[true, true, true, true, true, true, true, true, true, true, true, true, true, false] rfl rfl (any_of HT_.out (by kernel_rfl)) (fun _ _ _ h => h) (Or.inl ⟨by rfl, ?_⟩) ?_ ?_
      rotate_left
      · intro w'
        go_simp
        with_reducible rfl
      rotate_left
      · simp only [Act.put, List.setIfInBounds_toArray, List.set_cons_zero, List.set_cons_succ, i64_w, i32_w]
        rfl
      refine last_ (i := 13) (N := none) #[true, true, true, true, true, true, true, true, true, true, true, true, true, true] rfl rfl (one_of HT_.out (by kernel_rfl)) (by decide) (fun K hK => ?_)
      refine skip_ (w1 := ?_) (by rfl) rfl ?_ ?_
      rotate_left
      · go_simp
        rfl
      refine hK.out _ _ ?_
      clear hK K
      refine done_ (done_of HT_.out (by kernel_rfl)) ?_
      clear m7
      go_wp2_with fail
      have HO5 := Aside0.mk ((HO.out.putB k (C / 2 ^ jr % 2 == 1)).drew)
      have BX5 := Aside0.mk ((BX.out.putC k (.bool (C / 2 ^ jr % 2 == 1))).drewN 1)
      go_roundw
      case rel => exact ⟨k + 1, by omega, by go_num, ⟨HO5.out.of_cast (by rw [← HB.out]; exact bitsK_succ l n k hlt)⟩, BX5⟩
      case measure => simp [intOf]; omega
    · obtain rfl : n = k := by omega
      have HOn := Aside0.mk (HO.out.of_cast (bitsK_all l n))
      have hlenr : ((List.range n).map (bitAt l)).length = n := by simp
      have HLN := Aside0.mk hlenr
      have B1 := Aside0.mk (below_drew (Below.refl wr.heap.size wr))
      have HCb := Aside0.mk ((Kd.R_reads' HOn.out.r).2.2)
      have M96 : Aside0 (∀ W' : World, Below wr.heap.size wr W' → Calls Try.prog 96 #[.int .i64 n, .func (.func 144) #[] #[.pointer (some ⟨w2.heap.size, 0, none⟩)]] W' fun e w4 => ∃ A4 c4, e = .returned (.slice A4 N c4) ∧ N ≤ c4 ∧ Kd.C (Kd.int .u8) w4 A4 N (lay (bitAt l) n) ∧ Below wr.heap.size wr w4) := ⟨fun W' hW => by
        refine (lay_144 (bitAt l) n hn (.pointer (some ⟨w2.heap.size, 0, none⟩)) W' ⟨fun W hW2 i hi => ?_⟩).mono ?_
        · have hb2 := below_then hW hW.size hW2
          have hcell : W.cell? ⟨w2.heap.size, 0, none⟩ = some (.slice A2 ((List.range n).map (bitAt l)).length c2) := by rw [HLN.out]; exact (BX.out.step hb2).cell 0 rfl
          refine (clo144 W w2.heap.size A2 c2 _ hcell (Kd.C_below HCb.out hb2) i (by rw [HLN.out]; exact hi)).mono ?_
          rintro e w' ⟨rfl, rfl⟩
          rw [bits_rd l n i hi]
          exact ⟨rfl, rfl⟩
        · rintro e w' ⟨v, rfl, hr, hb⟩
          obtain ⟨A4, c4, e4, hc4, hC4⟩ := Kd.R_reads hr
          have hl4 := lay_length (bitAt l) n
          rw [← HNN.out] at hl4
          rw [hl4] at e4 hc4 hC4
          subst e4
          exact ⟨A4, c4, rfl, hc4, hC4, below_then hW hW.size hb⟩⟩
      have M143 : Aside0 (∀ (W' : World) (A4 : Option Addr) (c4 : Nat), Below wr.heap.size wr W' → Kd.C (Kd.int .u8) W' A4 N (lay (bitAt l) n) → N ≤ c4 → Calls Try.prog 143 #[.slice A4 N c4, .slice A N c] W' fun e w5 => e = .returned (.bool (!q)) ∧ Below wr.heap.size wr w5) := ⟨fun W' A4 c4 hW hC4 hc4 => by
        have hl4 := lay_length (bitAt l) n
        rw [← HNN.out] at hl4
        have htl : (l.take N).length = N := by rw [List.length_take]; omega
        have hCl : Kd.C (Kd.int .u8) W' A l.length l := Kd.C_below (Kd.C_below HR.out HO.out.b) hW
        have ht := Kd.C_take hCl hNl
        have := bytes_Equal.calls A4 c4 (lay (bitAt l) n) A c (l.take N) (!q) W' (by rw [hl4]; exact hC4) (by omega) ht (by omega) (by unfold bytes_Equal.f; rw [← HQ.out, ← HNN.out])
        rw [hl4, htl] at this
        refine this.mono ?_
        rintro e w5 ⟨rfl, hd⟩
        exact ⟨rfl, below_then hW hW.size hd.below⟩⟩
      clear hlenr hdv hN8
      go_wp2_with fail
      refine start_ (n := 8) (S := fun W' => Below wr.heap.size wr W') (ds := []) #[false, false, false, false, false, false, false, false] (by kernel_rfl) rfl rfl (B1.out) (fun hHeld => ?_)
      refine with_tabW GC101.tab10 GC101.bits10 (fun HT_ HW_ => ?_)
      refine pure_ (i := 0) (N := some 38) (v := ?_) (a' := ?_) #[true, false, false, false, false, false, false, false] rfl rfl (any_of HT_.out (by kernel_rfl)) (fun _ _ _ h => h) (Or.inl ⟨by rfl, ?_⟩) ?_ ?_
      rotate_left
      · intro w'
        go_simp
        with_reducible rfl
      rotate_left
      · simp only [Act.put, List.setIfInBounds_toArray, List.set_cons_zero, List.set_cons_succ, i64_w, i32_w]
        rfl
      refine pure_ (i := 1) (N := some 39) (v := ?_) (a' := ?_) #[true, true, false, false, false, false, false, false] rfl rfl (any_of HT_.out (by kernel_rfl)) (fun _ _ _ h => h) (Or.inl ⟨by rfl, ?_⟩) ?_ ?_
      rotate_left
      · intro w'
        go_simp
        with_reducible rfl
      rotate_left
      · simp only [Act.put, List.setIfInBounds_toArray, List.set_cons_zero, List.set_cons_succ, i64_w, i32_w]
        rfl
      refine pure_ (i := 3) (N := some 41) (v := ?_) (a' := ?_) #[true, true, false, true, false, false, false, false] rfl rfl (any_of HT_.out (by kernel_rfl)) (fun _ _ _ h => h) (Or.inl ⟨by rfl, ?_⟩) ?_ ?_
      rotate_left
      · intro w'
        go_simp
        with_reducible rfl
      rotate_left
      · simp only [Act.put, List.setIfInBounds_toArray, List.set_cons_zero, List.set_cons_succ, i64_w, i32_w]
        rfl
      refine pure_ (i := 4) (N := some 42) (v := ?_) (a' := ?_) #[true, true, false, true, true, false, false, false] rfl rfl (any_of HT_.out (by kernel_rfl)) (fun _ _ _ h => h) (Or.inl ⟨by rfl, ?_⟩) ?_ ?_
      rotate_left
      · intro w'
        go_simp
        with_reducible rfl
      rotate_left
      · simp only [Act.put, List.setIfInBounds_toArray, List.set_cons_zero, List.set_cons_succ, i64_w, i32_w]
        rfl
      refine pure_ (i := 5) (N := some 43) (v := ?_) (a' := ?_) #[true, true, false, true, true, true, false, false] rfl rfl (any_of HT_.out (by kernel_rfl)) (fun _ _ _ h => h) (Or.inl ⟨by rfl, ?_⟩) ?_ ?_
      rotate_left
      · intro w'
        go_simp
        with_reducible rfl
      rotate_left
      · simp only [Act.put, List.setIfInBounds_toArray, List.set_cons_zero, List.set_cons_succ, i64_w, i32_w]
        rfl
      refine one_ (i := 2) (N := some 40) #[true, true, true, true, true, true, false, false] rfl rfl (one_of HT_.out (by kernel_rfl)) (by decide) (fun K hK => ?_)
      refine goes_ Try.func96 (by kernel_rfl) rfl #[.int .i64 n, .func (.func 144) #[] #[.pointer (some ⟨w2.heap.size, 0, none⟩)]] (by rfl) rfl rfl (by (try simp only [List.map_toArray, List.map_cons, List.map_nil]); first | done | rfl) ?_
      refine (M96.out _ B1.out).mono ?_
      rintro e w4 ⟨A4, c4, rfl, hc4, hC4, hb4⟩
      have B4 := Aside0.mk hb4
      have HC4 := Aside0.mk hC4
      clear hb4 hC4
      refine ⟨_, rfl, ?_⟩
      refine hK.out _ _ (B4.out) (fun hHeld => ?_)
      clear hK K
      refine norm_ (a' := ?_) ?_ ?_
      rotate_left
      · show Act.put _ (some 40) _ = _
        simp only [Act.put, List.setIfInBounds_toArray, List.set_cons_zero, List.set_cons_succ, i64_w, i32_w]
        rfl
      refine one_ (i := 6) (N := some 44) #[true, true, true, true, true, true, true, false] rfl rfl (one_of HT_.out (by kernel_rfl)) (by decide) (fun K hK => ?_)
      refine goes_ Try.func143 (by kernel_rfl) rfl #[.slice A4 N c4, .slice A N c] (by rfl) rfl rfl (by (try simp only [List.map_toArray, List.map_cons, List.map_nil]); first | done | rfl) ?_
      refine (M143.out _ _ _ B4.out HC4.out hc4).mono ?_
      rintro e w5 ⟨rfl, hb5⟩
      have B5 := Aside0.mk hb5
      clear hb5
      refine ⟨_, rfl, ?_⟩
      refine hK.out _ _ (B5.out) (fun hHeld => ?_)
      clear hK K
      refine norm_ (a' := ?_) ?_ ?_
      rotate_left
      · show Act.put _ (some 44) _ = _
        simp only [Act.put, List.setIfInBounds_toArray, List.set_cons_zero, List.set_cons_succ, i64_w, i32_w]
        rfl
      refine pure_ (i := 7) (N := some 45) (v := ?_) (a' := ?_) #[true, true, true, true, true, true, true, true] rfl rfl (any_of HT_.out (by kernel_rfl)) (fun _ _ _ h => h) (Or.inl ⟨by rfl, ?_⟩) ?_ ?_
      rotate_left
      · intro w'
        go_simp
        with_reducible rfl
      rotate_left
      · simp only [Act.put, List.setIfInBounds_toArray, List.set_cons_zero, List.set_cons_succ, i64_w, i32_w]
        rfl
      refine done_ (done_of HT_.out (by kernel_rfl)) ?_
      have HO6 := Aside0.mk (HOn.out.step B5.out)
      have BX6 := Aside0.mk (BX.out.step B5.out)
      cases q with
      | true =>
        go_wp2_with fail
        go_ret3
        exact Or.inl ⟨rfl, rfl, HO6.out.b⟩
      | false =>
        have hbx5 := BX6.out.cell 0 rfl
        go_wp2_with fail
        refine start_ (n := 7) (S := fun W' => W'.cell? ⟨w2.heap.size, 0, none⟩ = some (.slice A2 n c2)) (ds := []) #[false, false, false, false, false, false, false] (by kernel_rfl) rfl rfl (hbx5) (fun hHeld => ?_)
        refine with_tabW GC101.tab12 GC101.bits12 (fun HT_ HW_ => ?_)
        refine take_ (i := 0) (N := some 46) (v := ?_) (a' := ?_) #[true, false, false, false, false, false, false] rfl rfl (take_ofW HT_.out HW_.out (by kernel_rfl)) (fun _ _ _ h => h) (Or.inl ⟨by rfl, ?_⟩) hHeld ?_ ?_
        rotate_left
        · intro w' s0
          (try dsimp only at s0)
          (try go_split_ands)
          go_simp
          with_reducible rfl
        rotate_left
        · simp only [Act.put, List.setIfInBounds_toArray, List.set_cons_zero, List.set_cons_succ, i64_w, i32_w]
          rfl
        refine pure_ (i := 1) (N := some 47) (v := ?_) (a' := ?_) #[true, true, false, false, false, false, false] rfl rfl (any_of HT_.out (by kernel_rfl)) (fun _ _ _ h => h) (Or.inl ⟨by rfl, ?_⟩) ?_ ?_
        rotate_left
        · intro w'
          go_simp
          with_reducible rfl
        rotate_left
        · simp only [Act.put, List.setIfInBounds_toArray, List.set_cons_zero, List.set_cons_succ, i64_w, i32_w]
          rfl
        refine pure_ (i := 2) (N := some 48) (v := ?_) (a' := ?_) #[true, true, true, false, false, false, false] rfl rfl (any_of HT_.out (by kernel_rfl)) (fun _ _ _ h => h) (Or.inl ⟨by rfl, ?_⟩) ?_ ?_
        rotate_left
        · intro w'
          go_simp
          with_reducible rfl
        rotate_left
        · simp only [Act.put, List.setIfInBounds_toArray, List.set_cons_zero, List.set_cons_succ, i64_w, i32_w]
          rfl
        refine pure_ (i := 3) (N := some 49) (v := ?_) (a' := ?_) #[true, true, true, true, false, false, false] rfl rfl (any_of HT_.out (by kernel_rfl)) (fun _ _ _ h => h) (Or.inl ⟨by rfl, ?_⟩) ?_ ?_
        rotate_left
        · intro w'
          go_simp
          with_reducible rfl
        rotate_left
        · simp only [Act.put, List.setIfInBounds_toArray, List.set_cons_zero, List.set_cons_succ, i64_w, i32_w]
          rfl
        refine pure_ (i := 4) (N := some 4) (v := ?_) (a' := ?_) #[true, true, true, true, true, false, false] rfl rfl (any_of HT_.out (by kernel_rfl)) (fun _ _ _ h => h) (Or.inl ⟨by rfl, ?_⟩) ?_ ?_
        rotate_left
        · intro w'
          go_simp
          with_reducible rfl
        rotate_left
        · simp only [Act.put, List.setIfInBounds_toArray, List.set_cons_zero, List.set_cons_succ, i64_w, i32_w]
          rfl
        refine pure_ (i := 5) (N := some 5) (v := ?_) (a' := ?_) #[true, true, true, true, true, true, false] rfl rfl (any_of HT_.out (by kernel_rfl)) (fun _ _ _ h => h) (Or.inl ⟨by rfl, ?_⟩) ?_ ?_
        rotate_left
        · intro w'
          go_simp
          with_reducible rfl
        rotate_left
        · simp only [Act.put, List.setIfInBounds_toArray, List.set_cons_zero, List.set_cons_succ, i64_w, i32_w]
          rfl
        refine pure_ (i := 6) (N := some 6) (v := ?_) (a' := ?_) #[true, true, true, true, true, true, true] rfl rfl (any_of HT_.out (by kernel_rfl)) (fun _ _ _ h => h) (Or.inl ⟨by rfl, ?_⟩) ?_ ?_
        rotate_left
        · intro w'
          go_simp
          with_reducible rfl
        rotate_left
        · simp only [Act.put, List.setIfInBounds_toArray, List.set_cons_zero, List.set_cons_succ, i64_w, i32_w]
          rfl
        refine done_ (done_of HT_.out (by kernel_rfl)) ?_
        go_wp2_with fail
        go_ret3
        have hnn := HNN.out
        subst hnn
        have hn9 := HN9.out
        subst hn9
        exact Or.inr ⟨rfl, _, A9, c9, rfl, hnc9, (HO6.out.step (below_drew (Below.refl _ _))), HC9.out⟩
end Go.Proofs.Ytlmcefhpnfoahaa.P
end

section
namespace Go.Proofs.Ytlmcefhpnfoahaa.P
open Go.RowKit Go.Proofs.YtlmcefhpnfoahaaW.PrintWords Go.Proofs.YtlmcefhpnfoahaaW.PrintLast Go.Proofs.YtlmcefhpnfoahaaW.PrintMore
set_option linter.unusedVariables false
set_option linter.unusedSimpArgs false

def cells39 (x : S39) : List Value := [.int .u8 x.f0, .int .i64 x.f1, .string x.f2]
theorem R39_set {W : World} {B g n c : Nat} {ok : Nat → Prop} {xs : List S39} (h : Kd.R k39 39 W B ok (.slice (some ⟨g, 0, none⟩) n c) xs) (i f : Nat) (hf : f < 3) (u : Value) (y : S39) (hy : (cells39 (xs.getD i z39)).set f u = cells39 y) :
    Kd.R k39 39 (W.setCell ⟨g, i * 3 + f, none⟩ u) B ok (.slice (some ⟨g, 0, none⟩) n c) (xs.set i y) := by
  obtain ⟨h0, inner, hown, hr⟩ := h
  have hn := (Kd.R_reads' (show Kd.R k39 39 W B ok (.slice (some ⟨g, 0, none⟩) n c) xs from ⟨h0, inner, hown, hr⟩)).1
  subst hn
  obtain ⟨hs, _⟩ := hown.stored (i * 3 + f) u
  refine ⟨h0, inner.set (i * 3 + f) u, by rw [List.length_set]; exact hs, by rw [List.length_set, List.length_set]; exact hr.1, fun j p hj => ?_⟩
  rw [List.getElem?_set] at hj
  show k39.M _ _ _ _ ((List.drop (j * 3) _).take 3)
  rw [List.drop_set]
  by_cases e : i = j
  · subst e
    rw [if_pos rfl] at hj
    split at hj
    · rename_i hlt
      injection hj with hj
      subst hj
      rw [if_neg (by omega), show i * 3 + f - i * 3 = f by omega, List.take_set]
      have h3 := hr.2 i xs[i] (List.getElem?_eq_getElem hlt)
      have h4 : (inner.drop (i * 3)).take 3 = cells39 xs[i] := k39_openM h3
      have h5 : xs.getD i z39 = xs[i] := by simp [List.getD_eq_getElem?_getD, List.getElem?_eq_getElem hlt]
      rw [h5] at hy
      rw [h4, hy]
      exact k39_mkM _ _ _ _
    · cases hj
  · rw [if_neg e] at hj
    have h3 := hr.2 j p hj
    have h4 : (inner.drop (j * 3)).take 3 = cells39 p := k39_openM h3
    split
    · rw [h4]; exact k39_mkM _ _ _ _
    · rw [List.take_set, List.set_eq_of_length_le (by rw [List.length_take]; omega), h4]
      exact k39_mkM _ _ _ _
theorem Own.put0 {B : Nat} {w0 W : World} {g n c : Nat} {xs : List S39} (h : Own k39 39 B w0 W (.slice (some ⟨g, 0, none⟩) n c) xs) (i : Nat) (v : Int) : Own k39 39 B w0 (W.setCell ⟨g, i * 3, none⟩ (.int .u8 v)) (.slice (some ⟨g, 0, none⟩) n c) (xs.set i ⟨v, (xs.getD i z39).f1, (xs.getD i z39).f2⟩) :=
  ⟨R39_set h.r i 0 (by decide) _ _ rfl, h.b.setCell (Kd.R_base h.r g rfl) _, by have := h.s; simpa [World.setCell] using this⟩
theorem Own.put1 {B : Nat} {w0 W : World} {g n c : Nat} {xs : List S39} (h : Own k39 39 B w0 W (.slice (some ⟨g, 0, none⟩) n c) xs) (i : Nat) (v : Int) : Own k39 39 B w0 (W.setCell ⟨g, i * 3 + 1, none⟩ (.int .i64 v)) (.slice (some ⟨g, 0, none⟩) n c) (xs.set i ⟨(xs.getD i z39).f0, v, (xs.getD i z39).f2⟩) :=
  ⟨R39_set h.r i 1 (by decide) _ _ rfl, h.b.setCell (Kd.R_base h.r g rfl) _, by have := h.s; simpa [World.setCell] using this⟩
theorem Own.put2 {B : Nat} {w0 W : World} {g n c : Nat} {xs : List S39} (h : Own k39 39 B w0 W (.slice (some ⟨g, 0, none⟩) n c) xs) (i : Nat) (v : ByteArray) : Own k39 39 B w0 (W.setCell ⟨g, i * 3 + 2, none⟩ (.string v)) (.slice (some ⟨g, 0, none⟩) n c) (xs.set i ⟨(xs.getD i z39).f0, (xs.getD i z39).f1, v⟩) :=
  ⟨R39_set h.r i 2 (by decide) _ _ rfl, h.b.setCell (Kd.R_base h.r g rfl) _, by have := h.s; simpa [World.setCell] using this⟩
/-- out[i] = x. -/
theorem Own.putV {B : Nat} {w0 W : World} {g n c : Nat} {xs : List S39} (h : Own k39 39 B w0 W (.slice (some ⟨g, 0, none⟩) n c) xs) (i : Nat) (hi : i < xs.length) (y : S39) :
    Own k39 39 B w0 (((W.setCell ⟨g, i * 3, none⟩ (.int .u8 y.f0)).setCell ⟨g, i * 3 + 1, none⟩ (.int .i64 y.f1)).setCell ⟨g, i * 3 + 2, none⟩ (.string y.f2)) (.slice (some ⟨g, 0, none⟩) n c) (xs.set i y) := by
  have h3 := ((h.put0 i y.f0).put1 i y.f1).put2 i y.f2
  refine h3.of_cast ?_
  rw [List.set_set, List.set_set]
  congr 1
  simp [List.getD_eq_getElem?_getD, hi]
/-- A store into an own row's block leaves another block alone. -/
theorem Blk.putC {W : World} {g b n c : Nat} {o : Obj} (h : Blk W g o (.slice (some ⟨b, 0, none⟩) n c)) (j : Nat) (y : Value) : Blk (W.setCell ⟨b, j, none⟩ y) g o (.slice (some ⟨b, 0, none⟩) n c) :=
  ⟨(Below.heap_setCell W ⟨b, j, none⟩ y g (fun e => h.n (by rw [e]; rfl))).trans h.h, h.n⟩
end Go.Proofs.Ytlmcefhpnfoahaa.P
end

section
namespace Go.Proofs.Ytlmcefhpnfoahaa.P
open Go.RowKit Go.Proofs.YtlmcefhpnfoahaaW.PrintWords Go.Proofs.YtlmcefhpnfoahaaW.PrintLast Go.Proofs.YtlmcefhpnfoahaaW.PrintMore
set_option linter.unusedVariables false
set_option linter.unusedSimpArgs false

def i64 (n : Int) : Prop := -9223372036854775808 ≤ n ∧ n ≤ 9223372036854775807
/-- Changes of the steps. -/
def chg (last step : Int) : List Int → List Int
  | [] => []
  | v :: r => wrap64 (wrap64 (v - last) - step) :: chg v (wrap64 (v - last)) r
def sums (last step : Int) : List Int → List Int
  | [] => []
  | c :: r => wrap64 (last + wrap64 (step + c)) :: sums (wrap64 (last + wrap64 (step + c))) (wrap64 (step + c)) r
/-- A run: how many, and which change. -/
def enc2 (n : Nat) (c : Int) : List Int := vput 9 n ++ vput 9 (zig c)
def runsTo : Nat → Int → List Int → List Int
  | n, c, [] => if 0 < n then enc2 n c else []
  | n, c, d :: r => if 0 < n ∧ d ≠ c then enc2 n c ++ runsTo 1 d r else runsTo (n + 1) d r
def encInts (l : List Int) : List Int := runsTo 0 0 (chg 0 0 l)
/-- Changes out of runs; all bytes are to be used. -/
def getRuns : Nat → Nat → Option Int → List Int → List Int × Int
  | 0, need, _, b => if need = 0 then (if 0 < b.length then ([], 21) else ([], 0)) else ([], 20)
  | f + 1, need, prev, b =>
    if need = 0 then (if 0 < b.length then ([], 21) else ([], 0)) else if b.length = 0 then ([], 20) else if (vget b).2.2 ≠ 0 then ([], (vget b).2.2)
    else if (vget b).1 = 0 ∨ (vget b).1 > need then ([], 21) else if (vget (b.drop (vget b).2.1.toNat)).2.2 ≠ 0 then ([], (vget (b.drop (vget b).2.1.toNat)).2.2)
    else if prev = some (zag (vget (b.drop (vget b).2.1.toNat)).1) then ([], 21)
    else if (getRuns f (need - (vget b).1.toNat) (some (zag (vget (b.drop (vget b).2.1.toNat)).1)) (b.drop ((vget b).2.1 + (vget (b.drop (vget b).2.1.toNat)).2.1).toNat)).2 = 0 then
      (List.replicate (vget b).1.toNat (zag (vget (b.drop (vget b).2.1.toNat)).1) ++ (getRuns f (need - (vget b).1.toNat) (some (zag (vget (b.drop (vget b).2.1.toNat)).1)) (b.drop ((vget b).2.1 + (vget (b.drop (vget b).2.1.toNat)).2.1).toNat)).1, 0)
    else ([], (getRuns f (need - (vget b).1.toNat) (some (zag (vget (b.drop (vget b).2.1.toNat)).1)) (b.drop ((vget b).2.1 + (vget (b.drop (vget b).2.1.toNat)).2.1).toNat)).2)
def getInts (b : List Int) (n : Nat) : List Int × Int := if (getRuns n n none b).2 = 0 then (sums 0 0 (getRuns n n none b).1, 0) else ([], (getRuns n n none b).2)
theorem ba_beq (a b : ByteArray) : (a == b) = (a.data == b.data) := rfl
instance lawful_ba : LawfulBEq ByteArray where
  eq_of_beq := fun {a b} h => by
    rw [ba_beq] at h
    have := eq_of_beq h
    cases a; cases b; simp at this; rw [this]
  rfl := fun {a} => by rw [ba_beq]; exact beq_self_eq_true _
/-- Texts, each once, behind some. -/
def wordsOf : List ByteArray → List ByteArray → List ByteArray
  | acc, [] => acc
  | acc, s :: r => wordsOf (if s ∈ acc then acc else acc ++ [s]) r
def encT (s : ByteArray) : List Int := vput 9 s.size ++ bytesOf s
def which (W : List ByteArray) (s : ByteArray) : List Int := vput 9 (W.idxOf s : Nat)
def encTexts (m : List ByteArray) : List Int := vput 9 (wordsOf [] m).length ++ (wordsOf [] m).flatMap encT ++ m.flatMap (which (wordsOf [] m))
/-- Words that bytes begin with. -/
def getWords : Nat → List Int → List ByteArray × List Int × Int
  | 0, b => ([], b, 0)
  | k + 1, b => if (vget b).2.2 ≠ 0 then ([], [], (vget b).2.2) else if (vget b).1 > (b.length : Int) - (vget b).2.1 then ([], [], 20)
    else if (getWords k (b.drop ((vget b).2.1 + (vget b).1).toNat)).2.2 = 0 then (strOfNums ((b.take ((vget b).2.1 + (vget b).1).toNat).drop (vget b).2.1.toNat) :: (getWords k (b.drop ((vget b).2.1 + (vget b).1).toNat)).1, (getWords k (b.drop ((vget b).2.1 + (vget b).1).toNat)).2)
    else ([], [], (getWords k (b.drop ((vget b).2.1 + (vget b).1).toNat)).2.2)
/-- Marks by their words' places. -/
def getWhich (W : List ByteArray) : Nat → List Int → List ByteArray × List Int × Int
  | 0, b => ([], b, 0)
  | k + 1, b => if (vget b).2.2 ≠ 0 then ([], [], (vget b).2.2) else if (vget b).1 ≥ (W.length : Int) then ([], [], 21)
    else if (getWhich W k (b.drop (vget b).2.1.toNat)).2.2 = 0 then (W.getD (vget b).1.toNat ⟨#[]⟩ :: (getWhich W k (b.drop (vget b).2.1.toNat)).1, (getWhich W k (b.drop (vget b).2.1.toNat)).2)
    else ([], [], (getWhich W k (b.drop (vget b).2.1.toNat)).2.2)
def getTexts (b : List Int) (n : Nat) : List ByteArray × Int :=
  if (vget b).2.2 ≠ 0 then ([], (vget b).2.2) else if (vget b).1 > n then ([], 21)
  else if (getWords (vget b).1.toNat (b.drop (vget b).2.1.toNat)).2.2 ≠ 0 then ([], (getWords (vget b).1.toNat (b.drop (vget b).2.1.toNat)).2.2)
  else if (getWhich (getWords (vget b).1.toNat (b.drop (vget b).2.1.toNat)).1 n (getWords (vget b).1.toNat (b.drop (vget b).2.1.toNat)).2.1).2.2 ≠ 0 then ([], (getWhich (getWords (vget b).1.toNat (b.drop (vget b).2.1.toNat)).1 n (getWords (vget b).1.toNat (b.drop (vget b).2.1.toNat)).2.1).2.2)
  else if encTexts (getWhich (getWords (vget b).1.toNat (b.drop (vget b).2.1.toNat)).1 n (getWords (vget b).1.toNat (b.drop (vget b).2.1.toNat)).2.1).1 = b then ((getWhich (getWords (vget b).1.toNat (b.drop (vget b).2.1.toNat)).1 n (getWords (vget b).1.toNat (b.drop (vget b).2.1.toNat)).2.1).1, 0) else ([], 21)
def marksOf (l : List S39) : List S39 := l.filter fun x => !nulV x
def encMarks (kind : Int) (m : List S39) : List Int := if kind = 1 then lay (fun i : Nat => (rd_T39 m i).f1 == 1) m.length else if kind = 2 then encInts (m.map S39.f1) else encTexts (m.map S39.f2)
def encCol (kind : Int) (l : List S39) : List Int := lay (fun i : Nat => nulV (rd_T39 l i)) l.length ++ encMarks kind (marksOf l)
def getTruths (b : List Int) (n : Nat) : List S39 × Int :=
  if b.length < (n + 7) / 8 then ([], 20) else if loose b n = true then ([], 21) else if 0 < (b.drop ((n + 7) / 8)).length then ([], 21) else ((List.range n).map fun i => ⟨1, if bitAt b i then 1 else 0, ⟨#[]⟩⟩, 0)
def getMarks (kind : Int) (b : List Int) (n : Nat) : List S39 × Int :=
  if kind = 1 then getTruths b n else if kind = 2 then ((getInts b n).1.map fun v => ⟨2, v, ⟨#[]⟩⟩, (getInts b n).2) else ((getTexts b n).1.map fun s => ⟨3, 0, s⟩, (getTexts b n).2)
/-- Marks in their places, Null in the others. -/
def merge (nul : Nat → Bool) : Nat → Nat → List S39 → List S39
  | _, 0, _ => []
  | i, n + 1, m => if nul i then z39 :: merge nul (i + 1) n m else m.headD z39 :: merge nul (i + 1) n m.tail
def cntF (nul : Nat → Bool) (n : Nat) : Nat := ((List.range n).filter fun i => !nul i).length
def getCol (kind : Int) (b : List Int) (n : Nat) : List S39 × Int :=
  if b.length < (n + 7) / 8 then ([], 20) else if loose b n = true then ([], 21)
  else if (getMarks kind (b.drop ((n + 7) / 8)) (cntF (bitAt b) n)).2 ≠ 0 then ([], (getMarks kind (b.drop ((n + 7) / 8)) (cntF (bitAt b) n)).2)
  else (merge (bitAt b) 0 n (getMarks kind (b.drop ((n + 7) / 8)) (cntF (bitAt b) n)).1, 0)
def isKind (kind : Int) : Prop := kind = 1 ∨ kind = 2 ∨ kind = 3
def fitCol (kind : Int) (l : List S39) : Bool := l.all (rowMay kind)
end Go.Proofs.Ytlmcefhpnfoahaa.P
end

section
namespace Go.Proofs.Ytlmcefhpnfoahaa.P
open Go.RowKit Go.Proofs.YtlmcefhpnfoahaaW.PrintWords Go.Proofs.YtlmcefhpnfoahaaW.PrintLast Go.Proofs.YtlmcefhpnfoahaaW.PrintMore
set_option linter.unusedVariables false
set_option linter.unusedSimpArgs false

/-- What a reader of marks leaves. -/
def GetVPost (w : World) (r : List S39 × Int) (e : Ending) (w' : World) : Prop :=
  ∃ v, e = .returned (.tuple #[v, .int .i64 r.2]) ∧ Kd.R k39 39 w' w.heap.size (fun _ => True) v r.1 ∧ Below w.heap.size w w'
theorem getV_nil (w w' : World) (c : Int) (hb : Below w.heap.size w w') : GetVPost w ([], c) (.returned (.tuple #[.slice none 0 0, .int .i64 c])) w' := ⟨_, rfl, Kd.R_nil _ _ _ _ _, hb⟩
/-- The first k marks that are set. -/
def trK (l : List Int) (n k : Nat) : List S39 := (List.range n).map fun i => if i < k then ⟨1, if bitAt l i then 1 else 0, ⟨#[]⟩⟩ else z39
theorem trK_length (l : List Int) (n k : Nat) : (trK l n k).length = n := by simp [trK]
theorem trK_zero (l : List Int) (n : Nat) : trK l n 0 = List.replicate n z39 := by
  unfold trK
  apply List.ext_getElem
  · simp
  · intro i h1 h2; simp
theorem trK_get (l : List Int) (n k : Nat) (h : k < n) : (trK l n k).getD k z39 = z39 := by
  simp [trK, List.getD_eq_getElem?_getD, h]
theorem trK_succ (l : List Int) (n k : Nat) (h : k < n) : (trK l n k).set k ⟨1, if bitAt l k then 1 else 0, ⟨#[]⟩⟩ = trK l n (k + 1) := by
  unfold trK
  apply List.ext_getElem
  · simp
  · intro i h1 h2
    rw [List.getElem_set]
    by_cases e : k = i
    · subst e; simp
    · have : (i < k + 1) ↔ (i < k) := by omega
      simp [e, this]
theorem trK_all (l : List Int) (n : Nat) : trK l n n = (List.range n).map fun i => ⟨1, if bitAt l i then 1 else 0, ⟨#[]⟩⟩ := by
  unfold trK
  apply List.map_congr_left
  intro i hi
  simp [List.mem_range.mp hi]
set_option maxRecDepth 100000 in
set_option maxHeartbeats 3200000 in
theorem getTruths_any (A : Option Addr) (c : Nat) (l : List Int) (n : Nat) (w : World) (hn : n ≤ 100000) (hll : l.length ≤ 100000000) (hr : Kd.C (Kd.int .u8) w A l.length l) (hc : l.length ≤ c) (hb : ∀ x ∈ l, isByte x = true) :
    Calls Try.prog 134 #[.slice A l.length c, .int .i64 n] w (GetVPost w (getTruths l n)) := by
  obtain ⟨r, hR⟩ : ∃ r, r = getTruths l n := ⟨_, rfl⟩
  rw [← hR]
  unfold getTruths at hR
  by_cases h1 : l.length < (n + 7) / 8
  · rw [if_pos h1] at hR
    subst hR
    have M := Aside0.mk (take_short A c l n w hn h1)
    clear h1 hr hb
    go_enter Try.func134, Try.ntmps134
    go_wp2_with (go_at_call 101; refine M.out.mono ?_; rintro e w1 ⟨rfl, rfl⟩)
    go_ret2
    exact getV_nil _ _ _ (Below.refl _ _)
  rw [if_neg h1] at hR
  have M0 := take_any A c l n w hn hll hr hc hb (by omega)
  by_cases h2 : loose l n = true
  · rw [if_pos h2] at hR
    subst hR
    rw [h2] at M0
    have M : Aside0 (Calls Try.prog 101 #[.slice A l.length c, .int .i64 n] w fun e w' => e = .returned (.tuple #[.slice none 0 0, .slice none 0 0, .int .i64 21]) ∧ Below w.heap.size w w') := ⟨M0.mono fun e w' h => by
      rcases h with ⟨_, h1, h2⟩ | ⟨h, _⟩
      · exact ⟨h1, h2⟩
      · cases h⟩
    clear h1 h2 M0 hr hb
    go_enter Try.func134, Try.ntmps134
    go_wp2_with (go_at_call 101; refine M.out.mono ?_; rintro e w1 ⟨rfl, hb⟩; have HB := Aside0.mk hb; clear hb)
    go_ret2
    exact getV_nil _ _ _ HB.out
  rw [if_neg h2] at hR
  rw [Bool.not_eq_true] at h2
  rw [h2] at M0
  obtain ⟨m, hm⟩ : ∃ m, m = l.length - (n + 7) / 8 := ⟨_, rfl⟩
  have M : Aside0 (Calls Try.prog 101 #[.slice A l.length c, .int .i64 n] w fun e w' => ∃ A1 c1 A' c', e = .returned (.tuple #[.slice A1 n c1, .slice A' m c', .int .i64 0]) ∧ n ≤ c1 ∧ Kd.C Kd.bool w' A1 n ((List.range n).map (bitAt l)) ∧ Below w.heap.size w w') := ⟨M0.mono fun e w' h => by
    rcases h with ⟨h, _⟩ | ⟨_, v, A', c', h1, h2, h3, h4⟩
    · cases h
    · obtain ⟨A1, n1, c1, e1, hn1, hc1, hC1⟩ := h3.sl'
      subst e1
      have hn2 : n1 = n := hn1.out.trans (by simp)
      subst hn2
      exact ⟨A1, c1, A', c', by rw [hm]; exact h1, hc1, hC1.out, h3.b⟩⟩
  rw [List.length_drop, ← hm] at hR
  clear h1 h2 M0 hr hb hm
  by_cases h3 : 0 < m
  · rw [if_pos h3] at hR
    subst hR
    have h3' : (0 : Int) < (m : Int) := by omega
    go_enter Try.func134, Try.ntmps134
    go_wp2_with (go_at_call 101; refine M.out.mono ?_; rintro e w1 ⟨A1, c1, A', c', rfl, hc1, hC1, hb⟩; have HB := Aside0.mk hb; clear hb hC1)
    go_ret2
    exact getV_nil _ _ _ HB.out
  · rw [if_neg h3] at hR
    subst hR
    obtain rfl : m = 0 := by omega
    clear h3
    go_enter Try.func134, Try.ntmps134
    go_wp2_with (first
      | (go_at_call 101; refine M.out.mono ?_; rintro e w1 ⟨A1, c1, A', c', rfl, hc1, hC1, hb⟩; have HB := Aside0.mk hb; have HC1 := Aside0.mk hC1; have HB1 := Aside0.mk (Below.refl w1.heap.size w1); clear hb hC1)
      | ((with_reducible refine gate_dst (N := 28) rfl ?_); refine Kd.R_make k39 w1.heap.size 39 rfl (N := 28) rfl 23 _ _ rfl (n : Int) rfl rfl Try.underlying23 (.agg #[(.int .u8 0), (.int .i64 0), (.string ⟨#[]⟩)]) 32 info39 rfl (by decide) (by omega) z39 (ok := fun _ => True) (okp := fun _ => True) (k39_mkM _ _ _ z39) (fun _ hk => hk) trivial (by omega) (by omega) HB1.out HB1.out.size ?_; intro v2 w2 ho hb hg hnew; have HO := Aside0.mk (Own.mk ho hb (Nat.le_trans HB1.out.size hg.size)); clear ho hb hg hnew; obtain ⟨A2, n2, c2, e2, hn2, hnc2, _⟩ := HO.out.sl'; have hn3 : n = n2 := (hn2.out.trans (by simp)).symm; subst e2; subst hn3; clear hn2))
    go_loopw [10, 11, 31] (fun v10 v11 v31 W => ∃ k : Nat, k ≤ n ∧ v31 = .int .i64 k ∧ Aside0 (Own k39 39 w1.heap.size w1 W (.slice A2 n c2) (trK l n k))) (fun _ _ v31 _ => n - (intOf v31).toNat)
    case atStart => exact ⟨0, Nat.zero_le _, rfl, ⟨HO.out.of_cast (by rw [trK_zero, Int.toNat_natCast])⟩⟩
    case round =>
      clear HO HB1
      obtain ⟨k, hk, rfl, HO⟩ := hrel
      by_cases hlt : k < n
      · have hkn : (k : Int) < (n : Int) := by omega
        obtain ⟨ad, e, hx⟩ := Kd.at_bool (Kd.C_below HC1.out HO.out.b) (k : Int) (by omega) hkn
        cases e
        rw [Int.toNat_natCast, bits_rd l n k hlt] at hx
        obtain ⟨g6, c6, e6, _, _, cells, hcs⟩ := Kd.R_form HO.out.r (by rw [trK_length]; omega)
        injection e6 with e61 e62 e63
        subst e61
        clear e62 e63
        obtain ⟨ad5, e7, y0, y1, y2⟩ := at_T39 (Kd.R_reads' HO.out.r).2.2 (k : Int) (by omega) (by rw [trK_length]; omega)
        cases e7
        rw [Int.toNat_natCast] at y0 y1 y2
        simp only [add_plain] at y0 y1 y2
        have z0 := blk_frozen hcs (k * 3)
        have z1 := blk_frozen hcs (k * 3 + 1)
        have HS := Aside0.mk (trK_succ l n k hlt)
        have HG := Aside0.mk (trK_get l n k hlt)
        have HL := Aside0.mk (trK_length l n k)
        obtain ⟨q, hq⟩ : ∃ q, q = bitAt l k := ⟨_, rfl⟩
        rw [← hq] at hx HS
        clear hq hcs y2
        cases q with
        | true =>
          go_wp2
          have HO5 := Aside0.mk ((HO.out.put0 k 1).put1 k 1)
          go_roundw
          case rel => exact ⟨k + 1, by omega, by go_num, ⟨HO5.out.of_cast (by rw [← HS.out, List.set_set, HG.out]; congr 1; simp [List.getD_eq_getElem?_getD, HL.out, hlt]; rfl)⟩⟩
          case measure => simp [intOf]; omega
        | false =>
          go_wp2
          have HO5 := Aside0.mk (HO.out.put0 k 1)
          go_roundw
          case rel => exact ⟨k + 1, by omega, by go_num, ⟨HO5.out.of_cast (by rw [← HS.out, HG.out]; rfl)⟩⟩
          case measure => simp [intOf]; omega
      · obtain rfl : n = k := by omega
        go_wp2
        go_ret2
        exact ⟨_, rfl, Kd.R_lower (HO.out.of_cast (trK_all l n)).r HB.out.size, below_then HB.out HB.out.size HO.out.b⟩
end Go.Proofs.Ytlmcefhpnfoahaa.P
end

section
namespace Go.Proofs.Ytlmcefhpnfoahaa.P
open Go.RowKit Go.Proofs.YtlmcefhpnfoahaaW.PrintWords Go.Proofs.YtlmcefhpnfoahaaW.PrintLast Go.Proofs.YtlmcefhpnfoahaaW.PrintMore
set_option linter.unusedVariables false
set_option linter.unusedSimpArgs false

set_option maxRecDepth 100000 in
set_option maxHeartbeats 1600000 in
theorem putTruths_calls (A : Option Addr) (c : Nat) (l : List S39) (hl : l.length ≤ 100000) (w : World) (hr : Kd.C k39 w A l.length l) :
    Calls Try.prog 133 #[.slice A l.length c] w fun e w' => ∃ v0_ : Value, e = .returned v0_ ∧ Kd.R (Kd.int .u8) 5 w' w.heap.size (fun _ => True) v0_ (lay (fun i => (rd_T39 l (i : Nat)).f1 == 1) l.length) ∧ Below w.heap.size w w' := by
  have HC1 := Aside0.mk (Kd.C_alloc hr (.cells #[.slice A l.length c] 23))
  have HB := Aside0.mk (show Below w.heap.size w (w.alloc (.cells #[.slice A l.length c] 23)) from below_alloc (Below.refl _ _) _)
  have HS := Aside0.mk (show w.heap.size ≤ (w.alloc (.cells #[.slice A l.length c] 23)).heap.size by simp)
  have MI := Aside0.mk (lay_150 (fun i => (rd_T39 l (i : Nat)).f1 == 1) l.length hl (.pointer (some ⟨w.heap.size, 0, none⟩)) (w.alloc (.cells #[.slice A l.length c] 23)) ⟨fun W hb i hi => clo150 W w.heap.size A c l (box_at hb 0 rfl) (Kd.C_below HC1.out hb) i hi⟩)
  clear hr
  go_enter Try.func133, Try.ntmps133
  go_wp2_with (go_at_call 96; refine MI.out.mono ?_; rintro e w1 ⟨v1, rfl, hk, hb⟩; have HR := Aside0.mk (Kd.R_lower hk HS.out); have HB2 := Aside0.mk (below_then HB.out HS.out hb); clear hk hb)
  go_ret
  exact ⟨_, rfl, HR.out, HB2.out⟩
end Go.Proofs.Ytlmcefhpnfoahaa.P
end

section
namespace Go.Proofs.Ytlmcefhpnfoahaa.P
open Go.RowKit Go.Proofs.YtlmcefhpnfoahaaW.PrintWords Go.Proofs.YtlmcefhpnfoahaaW.PrintLast Go.Proofs.YtlmcefhpnfoahaaW.PrintMore
set_option linter.unusedVariables false
set_option linter.unusedSimpArgs false

theorem cut_none (W : World) : (Instr.slice 22 (.slice none 0 0) none (some (.int .i64 0)) none).run Try.prog W = .ok (.slice none 0 0) W := by
  obtain ⟨i0, h0, hzz⟩ := Option.map_eq_some_iff.1 info5
  have := Go.Proofs.YtlmcefhpnfoahaaW.PrintWords.cut_to (P := Try.prog) 22 5 .i64 Try.underlying22 h0 none 0 0 0 (by omega) (by omega) (by omega) W
  exact this
theorem cut_zero (A : Option Addr) (n c : Nat) (hc : n ≤ c) (W : World) : (Instr.slice 22 (.slice A n c) none (some (.int .i64 0)) none).run Try.prog W = .ok (.slice A 0 c) W := by
  obtain ⟨i0, h0, hzz⟩ := Option.map_eq_some_iff.1 info5
  exact Go.Proofs.YtlmcefhpnfoahaaW.PrintWords.cut_to (P := Try.prog) 22 5 .i64 Try.underlying22 h0 A n c 0 (by omega) (by omega) hc W
set_option maxRecDepth 100000 in
set_option maxHeartbeats 1600000 in
theorem grow_nil (n : Nat) (hn : n ≤ 140737488355328) (w : World) :
    Calls Try.prog 149 #[.slice none 0 0, .int .i64 n] w fun e w' => ∃ v, e = .returned v ∧ Own (Kd.int .u8) 5 w.heap.size w w' v [] := by
  have k1 := cut_none
  have HO0 := Aside0.mk (Own.start (Kd.int .u8) 5 w)
  by_cases h0 : n = 0
  · subst h0
    go_enter Try.func149, Try.ntmps149
    go_wp2
    go_ret
    exact ⟨_, rfl, HO0.out⟩
  · have hp : (0 : Int) < (n : Int) := by omega
    have k2 := cut_zero
    go_enter Try.func149, Try.ntmps149
    go_wp2_with (first
      | (at_builtin; refine Kd.R_append_zeros (Kd.int .u8) (w0 := w) w.heap.size rfl _ _ 22 3 5 (.int .u8 0) 1 rfl Try.underlying22 (k := .i64) Try.underlying3 info5 rfl (by decide) (by omega) (.slice none 0 0) [] 0 (n : Int) (ok := fun _ => True) rfl rfl rfl (fun _ _ => trivial) HO0.out.r (by omega) HO0.out.b HO0.out.s (by simp; omega) ?_; intro v1 w1 ho hb hg hat; obtain ⟨xs, hxs⟩ : ∃ xs, xs = [] ++ List.replicate (n : Int).toNat (0 : Int) := ⟨_, rfl⟩; rw [← hxs] at ho; clear hxs hg hat; obtain ⟨A1, c1, e1, hc1, _⟩ := Kd.R_reads ho; subst e1; have k3 := k2 A1 xs.length c1 hc1; have HR := Aside0.mk (Kd.R_take ho (Nat.zero_le _)); have HB := Aside0.mk hb; have HS := Aside0.mk (Nat.le_trans (Nat.le_refl w.heap.size) hb.size); clear ho hb k2))
    go_ret
    exact ⟨_, rfl, ⟨HR.out, HB.out, HS.out⟩⟩
/-- How many bytes k rows have. -/
def sumLen (ls : List (List Int)) (k : Nat) : Nat := (ls.take k).flatten.length
theorem take_flat (ls : List (List Int)) (k : Nat) (h : k < ls.length) : (ls.take (k + 1)).flatten = (ls.take k).flatten ++ rd_L6 ls (k : Int) := by
  rw [List.take_succ_eq_append_getElem h, List.flatten_append]
  simp [rd_L6, List.getD_eq_getElem?_getD, h]
theorem sumLen_succ (ls : List (List Int)) (k : Nat) (h : k < ls.length) : sumLen ls (k + 1) = sumLen ls k + (rd_L6 ls (k : Int)).length := by
  unfold sumLen; rw [take_flat ls k h, List.length_append]
theorem sumLen_le (ls : List (List Int)) (k : Nat) : sumLen ls k ≤ ls.flatten.length := by
  unfold sumLen
  conv => rhs; rw [← List.take_append_drop k ls, List.flatten_append, List.length_append]
  exact Nat.le_add_right _ _
set_option maxRecDepth 100000 in
set_option maxHeartbeats 1600000 in
theorem concat_any (A : Option Addr) (c : Nat) (ls : List (List Int)) (hn : ls.length ≤ 4611686018427387904) (hl : ls.flatten.length ≤ 70368744177664) (w : World) (hC : Kd.C (Kd.slice 5 (Kd.int .u8)) w A ls.length ls) :
    Calls Try.prog 116 #[.slice A ls.length c] w fun e w' => ∃ v, e = .returned v ∧ Own (Kd.int .u8) 5 w.heap.size w w' v ls.flatten := by
  have HC := Aside0.mk hC
  have HL := Aside0.mk (sumLen_le ls)
  clear hC
  go_enter Try.func116, Try.ntmps116
  go_wp2
  go_loop [3, 5, 11] (fun v3 v5 v11 => ∃ k : Nat, k ≤ ls.length ∧ v11 = .int .i64 k ∧ v3 = .int .i64 (sumLen ls k)) (fun _ _ v11 => ls.length - (intOf v11).toNat)
  case atStart => exact ⟨0, Nat.zero_le _, rfl, rfl⟩
  case round =>
    obtain ⟨k, hk, rfl, rfl⟩ := hrel
    have hs := HL.out k
    by_cases hlt : k < ls.length
    · have hkn : (k : Int) < (ls.length : Int) := by omega
      obtain ⟨ad, A0, c0, e, hx, hx2, hx3⟩ := at_L6 HC.out (k : Int) (by omega) hkn
      cases e
      rw [Int.toNat_natCast] at hx
      have HS := Aside0.mk (sumLen_succ ls k hlt)
      have hs2 := HL.out (k + 1)
      have hs3 := sumLen_succ ls k hlt
      have hs4 : (0 : Int) ≤ (sumLen ls k : Int) + ((rd_L6 ls (k : Int)).length : Int) := by omega
      have hs5 : (sumLen ls k : Int) + ((rd_L6 ls (k : Int)).length : Int) ≤ 70368744177664 := by omega
      clear hs3 hx3
      go_wp2
      go_round
      case rel => exact ⟨k + 1, by omega, by go_num, by rw [HS.out]; go_num⟩
      case measure => simp [intOf]; omega
    · obtain rfl : ls.length = k := by omega
      obtain ⟨N, hN⟩ : ∃ N, N = sumLen ls ls.length := ⟨_, rfl⟩
      rw [← hN] at hs ⊢
      have hN0 : (0 : Int) ≤ (N : Int) := by omega
      have MG := Aside0.mk (grow_nil N (by omega) w)
      clear hN hlt hk
      go_wp2_with (go_at_call 149; refine MG.out.mono ?_; rintro e w1 ⟨v1, rfl, ho⟩; have HO := Aside0.mk ho; clear ho)
      go_loopw [6, 8, 27] (fun v6 v8 v27 W => ∃ k : Nat, k ≤ ls.length ∧ v27 = .int .i64 k ∧ Aside0 (Own (Kd.int .u8) 5 w.heap.size w W v6 (ls.take k).flatten)) (fun _ _ v27 _ => ls.length - (intOf v27).toNat)
      case atStart => exact ⟨0, Nat.zero_le _, rfl, ⟨HO.out.of_cast (by simp)⟩⟩
      case round =>
        clear HO MG
        obtain ⟨k, hk, rfl, HO⟩ := hrel
        by_cases hlt : k < ls.length
        · have hkn : (k : Int) < (ls.length : Int) := by omega
          obtain ⟨ad, A0, c0, e, hx, hx2, hx3⟩ := at_L6 (Kd.C_below HC.out HO.out.b) (k : Int) (by omega) hkn
          cases e
          rw [Int.toNat_natCast] at hx
          have HX3 := Aside0.mk hx3
          have HS := Aside0.mk (take_flat ls k hlt)
          have HS2 := Aside0.mk (show (ls.take k).flatten.length + (rd_L6 ls (k : Int)).length ≤ 140737488355328 from by
            have h1 := HL.out (k + 1)
            rw [sumLen_succ ls k hlt] at h1
            have h2 : sumLen ls k = (ls.take k).flatten.length := rfl
            omega)
          clear hx3
          go_wp2_with (first
            | (at_builtin; refine HO.out.bytes rfl _ _ HX3.out rfl rfl rfl HS2.out ?_; intro v2 w2 ho hg hat; have HO2 := Aside0.mk (ho.of_cast HS.out.symm); clear ho hg hat))
          go_roundw
          case rel => exact ⟨k + 1, by omega, by go_num, HO2⟩
          case measure => simp [intOf]; omega
        · obtain rfl : ls.length = k := by omega
          go_wp2
          go_ret
          exact ⟨_, rfl, HO.out.of_cast (by rw [List.take_length])⟩
end Go.Proofs.Ytlmcefhpnfoahaa.P
end

section
namespace Go.Proofs.Ytlmcefhpnfoahaa.P
open Go.RowKit Go.Proofs.YtlmcefhpnfoahaaW.PrintWords Go.Proofs.YtlmcefhpnfoahaaW.PrintLast Go.Proofs.YtlmcefhpnfoahaaW.PrintMore
set_option linter.unusedVariables false
set_option linter.unusedSimpArgs false

/-- A block that was laid cell by cell, read as a row. -/
theorem lit_row {α : Type} (d : Kd α) {W : World} {g : Nat} {inner : List Value} {t : TypeId} {fr : Nat × Nat} (hg : W.heap[g]? = some (.cells inner.toArray t fr)) (xs : List α) (hrep : Reps (d.K W) d.sz xs inner) (hm : xs.length ≤ 9223372036854775807) :
    Kd.C d W (some ⟨g, 0, none⟩) xs.length xs := by
  refine ⟨rfl, hm, fun _ => ⟨_, rfl, fun j p hj => ?_⟩⟩
  have hlt : j < xs.length := (List.getElem?_eq_some_iff.mp hj).1
  have h1 : j * d.sz + d.sz ≤ xs.length * d.sz := by rw [← Nat.succ_mul]; exact Nat.mul_le_mul_right _ hlt
  have h0 := hrep.1
  refine ⟨(inner.drop (j * d.sz)).take d.sz, by rw [List.length_take, List.length_drop]; omega, hrep.2 j p hj, fun i u hu => ?_⟩
  have hi : i < d.sz := by
    by_cases h : i < d.sz
    · exact h
    · rw [List.getElem?_eq_none (by rw [List.length_take]; omega)] at hu
      cases hu
  rw [List.getElem?_take_of_lt hi, List.getElem?_drop] at hu
  rw [add_plain]
  simp [World.cell?, hg, hu]
def cellsOf39 (l : List S39) : List Value := l.flatMap cells39
theorem reps_vals (W : World) (l : List S39) : Reps (k39.K W) k39.sz l (cellsOf39 l) := by
  show Reps _ 3 _ _
  induction l with
  | nil => exact Reps.none _ _
  | cons x t ih => exact Reps.c3 (k39_mk _ x) ih
theorem reps_bytes (W : World) (l : List Int) : Reps ((Kd.int .u8).K W) (Kd.int .u8).sz l (l.map (Value.int .u8)) := by
  show Reps _ 1 _ _
  induction l with
  | nil => exact Reps.none _ _
  | cons x t ih => exact Reps.one (by exact rfl) ih
/-- A literal row of values, of bytes, just laid. -/
theorem lit_vals (W : World) (l : List S39) (cs : Array Value) (h : cs = (cellsOf39 l).toArray) (hl : l.length ≤ 100) : Kd.C k39 (W.alloc (.cells cs 39)) (some ⟨W.heap.size, 0, none⟩) l.length l := by
  subst h
  exact lit_row k39 (heap_alloc_new W _) l (reps_vals _ l) (by omega)
theorem lit_bytes (W : World) (l : List Int) (cs : Array Value) (h : cs = (l.map (Value.int .u8)).toArray) (hl : l.length ≤ 100) : Kd.C (Kd.int .u8) (W.alloc (.cells cs 5)) (some ⟨W.heap.size, 0, none⟩) l.length l := by
  subst h
  exact lit_row (Kd.int .u8) (heap_alloc_new W _) l (reps_bytes _ l) (by omega)
/-- []byte(s), read as a row. -/
theorem conv_bytes_row (W : World) (s : ByteArray) (hs : s.size ≤ 9223372036854775807) : Kd.C (Kd.int .u8) (Lib.bytesWorld W 5 s) (some ⟨W.heap.size, 0, none⟩) (bytesOf s).length (bytesOf s) := by
  rw [bytesOf_length]
  exact Kd.C_of_reads (bytes_reads W 5 s hs)
end Go.Proofs.Ytlmcefhpnfoahaa.P
end

section
namespace Go.Proofs.Ytlmcefhpnfoahaa.P
open Go.RowKit Go.Proofs.YtlmcefhpnfoahaaW.PrintWords Go.Proofs.YtlmcefhpnfoahaaW.PrintLast Go.Proofs.YtlmcefhpnfoahaaW.PrintMore
open Go.ChangeMaps (setBlock)
set_option linter.unusedVariables false
set_option linter.unusedSimpArgs false

/-- Texts, each with its number. -/
def mapT (L : List ByteArray) : Array MapEntry := (L.zipIdx.map fun p => (⟨.string p.1, .int .i64 (p.2 : Nat), p.2⟩ : MapEntry)).toArray
theorem mapT_size (L : List ByteArray) : (mapT L).size = L.length := by simp [mapT]
theorem mapT_get (L : List ByteArray) (j : Nat) (e : MapEntry) (h : (mapT L).toList[j]? = some e) : ∃ s, L[j]? = some s ∧ e = ⟨.string s, .int .i64 (j : Nat), j⟩ := by
  simp only [mapT, List.getElem?_map] at h
  obtain ⟨p, hp, rfl⟩ := Option.map_eq_some_iff.1 h
  rw [List.getElem?_zipIdx] at hp
  obtain ⟨s, hs, rfl⟩ := Option.map_eq_some_iff.1 hp
  exact ⟨s, hs, by simp⟩
theorem mapT_keys (L : List ByteArray) : ∀ x ∈ (mapT L).toList, MapKept.IsKey .string x.key := by
  intro x hx
  obtain ⟨j, hj⟩ := List.getElem?_of_mem hx
  obtain ⟨s, _, rfl⟩ := mapT_get L j x hj
  trivial
theorem mapT_no (L : List ByteArray) (s : ByteArray) (h : s ∉ L) : Instr.findNow .string (.string s) (mapT L).toList 0 = some none := by
  rcases MapKept.findNow_spec (d := .string) (k := .string s) trivial (mapT L).toList 0 (mapT_keys L) with ⟨h1, _⟩ | ⟨j, e, h1, h2, h3⟩
  · exact h1
  · obtain ⟨t, ht, rfl⟩ := mapT_get L j e h2
    injection h3 with h3
    subst h3
    exact absurd (List.mem_of_getElem? ht) h
theorem mapT_at (L : List ByteArray) (hnd : L.Nodup) (s : ByteArray) (h : s ∈ L) : Instr.findNow .string (.string s) (mapT L).toList 0 = some (some (L.idxOf s, .int .i64 ((L.idxOf s : Nat) : Int))) := by
  rcases MapKept.findNow_spec (d := .string) (k := .string s) trivial (mapT L).toList 0 (mapT_keys L) with ⟨_, h2⟩ | ⟨j, e, h1, h2, h3⟩
  · obtain ⟨j, hj⟩ := List.getElem?_of_mem h
    have hj2 : (mapT L).toList[j]? = some ⟨.string s, .int .i64 (j : Nat), j⟩ := by
      simp [mapT, hj]
    exact absurd rfl (h2 _ (List.mem_of_getElem? hj2))
  · obtain ⟨t, ht, rfl⟩ := mapT_get L j e h2
    injection h3 with h3
    subst h3
    obtain ⟨hlt, he⟩ := List.getElem?_eq_some_iff.1 ht
    have : L.idxOf t = j := by rw [← he]; exact hnd.idxOf_getElem j hlt
    rw [this, h1, Nat.zero_add]
theorem mapT_look (W : World) {g c : Nat} (L : List ByteArray) (hb : W.heap[g]? = some (.map (mapT L) c)) (hnd : L.Nodup) (s : ByteArray) (h : s ∈ L) :
    (Instr.lookup 157 (.map (some g)) (.string s) true).run Try.prog W = .ok (.tuple #[.int .i64 ((L.idxOf s : Nat) : Int), .bool true]) W ∧ (Instr.lookup 157 (.map (some g)) (.string s) false).run Try.prog W = .ok (.int .i64 ((L.idxOf s : Nat) : Int)) W := by
  have hn := mapT_at L hnd s h
  constructor <;> simp [Instr.lookup, run_underlying Try.underlying157, MapKept.run_getObj_map hb, MapKept.run_checkKey Try.underlying9 (d := .string) (k := .string s) trivial, MapKept.run_findKey Try.underlying9 hn, Result.andThen]
theorem mapT_look_no (W : World) {g c : Nat} (L : List ByteArray) (hb : W.heap[g]? = some (.map (mapT L) c)) (s : ByteArray) (h : s ∉ L) (hz : (zeroValue 3).run Try.prog W = .ok (.int .i64 0) W) :
    (Instr.lookup 157 (.map (some g)) (.string s) true).run Try.prog W = .ok (.tuple #[.int .i64 0, .bool false]) W := by
  have hn := mapT_no L s h
  simp [Instr.lookup, run_underlying Try.underlying157, MapKept.run_getObj_map hb, MapKept.run_checkKey Try.underlying9 (d := .string) (k := .string s) trivial, MapKept.run_findKey Try.underlying9 hn, hz, Result.andThen]
theorem mapT_len (W : World) {g c : Nat} (L : List ByteArray) (hb : W.heap[g]? = some (.map (mapT L) c)) (ty : TypeId) : (Builtin.len_ #[157] ty #[.map (some g)]).run Try.prog W = .ok (.int .i64 (L.length : Int)) W := by
  simp [Builtin.len_, run_underlying Try.underlying157, MapKept.run_getObj_map hb, Result.andThen, mapT_size, goInt]
theorem mapT_store (W : World) {g : Nat} (L : List ByteArray) (hb : W.heap[g]? = some (.map (mapT L) L.length)) (s : ByteArray) (h : s ∉ L) :
    ∃ W2, (Instr.mapUpdate 157 (.map (some g)) (.string s) (.int .i64 (L.length : Int))).run Try.prog W = .ok () W2 ∧ W2.heap[g]? = some (.map (mapT (L ++ [s])) (L ++ [s]).length) ∧ W.grownBy W2 (some g) := by
  have hn := mapT_no L s h
  have hlt : g < W.heap.size := (Array.getElem?_eq_some_iff.1 hb).1
  have hp : (mapT L).push ⟨.string s, .int .i64 (L.length : Int), L.length⟩ = mapT (L ++ [s]) := by
    simp [mapT, List.zipIdx_append]
  refine ⟨setBlock W g (.map (mapT (L ++ [s])) (L.length + 1)), ?_, ?_, ?_⟩
  · rw [← hp]
    simp [Instr.mapUpdate, run_underlying Try.underlying157, MapKept.run_getObj_map hb, MapKept.run_checkKey Try.underlying9 (d := .string) (k := .string s) trivial, MapKept.run_findKey Try.underlying9 hn, MapKept.run_setObj_map _ hb, Result.andThen, setBlock]
  · simp [setBlock, hlt]
  · refine ⟨rfl, rfl, rfl, by simp [setBlock], fun k _ hk => ?_⟩
    simp only [setBlock]
    rw [Array.getElem?_setIfInBounds_ne (fun e => hk (by rw [e]))]
end Go.Proofs.Ytlmcefhpnfoahaa.P
end

section
namespace Go.Proofs.Ytlmcefhpnfoahaa.P
open Go.RowKit Go.Proofs.YtlmcefhpnfoahaaW.PrintWords Go.Proofs.YtlmcefhpnfoahaaW.PrintLast Go.Proofs.YtlmcefhpnfoahaaW.PrintMore
set_option linter.unusedVariables false
set_option linter.unusedSimpArgs false

theorem wordsOf_app : ∀ (m r acc : List ByteArray), wordsOf acc (m ++ r) = wordsOf (wordsOf acc m) r := by
  intro m
  induction m with
  | nil => intro r acc; rfl
  | cons s m ih => intro r acc; exact ih r _
theorem wordsOf_one (acc : List ByteArray) (s : ByteArray) : wordsOf acc [s] = if s ∈ acc then acc else acc ++ [s] := rfl
theorem wordsOf_pre : ∀ (m acc : List ByteArray), ∃ q, wordsOf acc m = acc ++ q := by
  intro m
  induction m with
  | nil => intro acc; exact ⟨[], by simp [wordsOf]⟩
  | cons s r ih =>
    intro acc
    unfold wordsOf
    obtain ⟨q, hq⟩ := ih (if s ∈ acc then acc else acc ++ [s])
    by_cases h : s ∈ acc
    · rw [if_pos h] at hq ⊢; exact ⟨q, hq⟩
    · rw [if_neg h] at hq ⊢; exact ⟨s :: q, by rw [hq]; simp⟩
theorem wordsOf_nodup : ∀ (m acc : List ByteArray), acc.Nodup → (wordsOf acc m).Nodup := by
  intro m
  induction m with
  | nil => intro acc h; exact h
  | cons s r ih =>
    intro acc h
    unfold wordsOf
    apply ih
    by_cases hs : s ∈ acc
    · rw [if_pos hs]; exact h
    · rw [if_neg hs]
      rw [List.nodup_append]
      refine ⟨h, by simp, ?_⟩
      intro a ha b hb
      simp at hb
      subst hb
      exact fun e => hs (e ▸ ha)
theorem wordsOf_len : ∀ (m acc : List ByteArray), (wordsOf acc m).length ≤ acc.length + m.length := by
  intro m
  induction m with
  | nil => intro acc; simp [wordsOf]
  | cons s r ih =>
    intro acc
    unfold wordsOf
    have := ih (if s ∈ acc then acc else acc ++ [s])
    simp only [List.length_cons]
    by_cases h : s ∈ acc
    · rw [if_pos h] at this ⊢; omega
    · rw [if_neg h] at this ⊢; rw [List.length_append, List.length_singleton] at this; omega
theorem wordsOf_from : ∀ (m acc : List ByteArray) (s : ByteArray), s ∈ wordsOf acc m → s ∈ acc ∨ s ∈ m := by
  intro m
  induction m with
  | nil => intro acc s h; exact Or.inl h
  | cons x r ih =>
    intro acc s h
    unfold wordsOf at h
    rcases ih _ s h with h | h
    · split at h
      · exact Or.inl h
      · rcases List.mem_append.mp h with h | h
        · exact Or.inl h
        · right; simp at h; simp [h]
    · right; simp [h]
/-- The texts ahead of place k, the words among them, and what is told of them. -/
def txK (l : List S39) (k : Nat) : List ByteArray := (l.take k).map S39.f2
def wdK (l : List S39) (k : Nat) : List ByteArray := wordsOf [] (txK l k)
def whK (l : List S39) (k : Nat) : List Int := (txK l k).flatMap (which (wordsOf [] (l.map S39.f2)))
theorem txK_succ (l : List S39) (k : Nat) (h : k < l.length) : txK l (k + 1) = txK l k ++ [(rd_T39 l k).f2] := by
  unfold txK
  rw [List.take_succ_eq_append_getElem h, List.map_append, rdT_get h]
  rfl
theorem wdK_succ (l : List S39) (k : Nat) (h : k < l.length) : wdK l (k + 1) = if (rd_T39 l k).f2 ∈ wdK l k then wdK l k else wdK l k ++ [(rd_T39 l k).f2] := by
  unfold wdK
  rw [txK_succ l k h, wordsOf_app, wordsOf_one]
theorem whK_succ (l : List S39) (k : Nat) (h : k < l.length) : whK l (k + 1) = whK l k ++ vput 9 (((wdK l (k + 1)).idxOf (rd_T39 l k).f2 : Nat) : Int) := by
  unfold whK
  rw [txK_succ l k h, List.flatMap_append]
  congr 1
  have hm : (rd_T39 l k).f2 ∈ wdK l (k + 1) := by
    rw [wdK_succ l k h]; split
    · assumption
    · simp
  have ha : l.map S39.f2 = txK l (k + 1) ++ (l.drop (k + 1)).map S39.f2 := by
    unfold txK
    rw [← List.map_append, List.take_append_drop]
  obtain ⟨q, hq⟩ := wordsOf_pre ((l.drop (k + 1)).map S39.f2) (wdK l (k + 1))
  have he : wordsOf [] (l.map S39.f2) = wdK l (k + 1) ++ q := by rw [ha, wordsOf_app]; exact hq
  simp only [List.flatMap_cons, List.flatMap_nil, List.append_nil]
  unfold which
  rw [he, List.idxOf_append, if_pos hm]
theorem wdK_nodup (l : List S39) (k : Nat) : (wdK l k).Nodup := wordsOf_nodup _ _ List.nodup_nil
theorem wdK_len (l : List S39) (k : Nat) : (wdK l k).length ≤ l.length := by
  have := wordsOf_len (txK l k) []
  unfold wdK
  simp only [txK, List.length_map, List.length_take, List.length_nil] at this ⊢
  omega
theorem wdK_size (l : List S39) (k : Nat) (hs : ∀ x ∈ l, x.f2.size ≤ 400000) : ∀ s ∈ wdK l k, s.size ≤ 400000 := by
  intro s hm
  rcases wordsOf_from _ _ _ hm with h | h
  · cases h
  · unfold txK at h
    obtain ⟨x, hx, rfl⟩ := List.mem_map.mp h
    exact hs x (List.mem_of_mem_take hx)
theorem flat_le {α : Type} (f : α → List Int) (b : Nat) : ∀ (l : List α), (∀ x ∈ l, (f x).length ≤ b) → (l.flatMap f).length ≤ b * l.length := by
  intro l
  induction l with
  | nil => intro _; simp
  | cons x t ih =>
    intro h
    have h1 := h x (by simp)
    have h2 := ih (fun y hy => h y (by simp [hy]))
    rw [List.flatMap_cons, List.length_append, List.length_cons, Nat.mul_succ]
    omega
theorem wdK_bytes (l : List S39) (k : Nat) (hl : l.length ≤ 100000) (hs : ∀ x ∈ l, x.f2.size ≤ 400000) : ((wdK l k).flatMap encT).length ≤ 400010 * 100000 := by
  have h1 := wdK_len l k
  have h2 := flat_le encT 400010 (wdK l k) (fun s hm => by
    have := wdK_size l k hs s hm
    have := vput_length 9 (s.size : Int)
    unfold encT
    rw [List.length_append, bytesOf_length]
    omega)
  have h3 : 400010 * (wdK l k).length ≤ 400010 * 100000 := Nat.mul_le_mul_left _ (by omega)
  omega
theorem whK_bytes (l : List S39) (k : Nat) (hl : l.length ≤ 100000) : (whK l k).length ≤ 10 * 100000 := by
  unfold whK
  have h2 := flat_le (which (wordsOf [] (l.map S39.f2))) 10 (txK l k) (fun s hm => by
    have := vput_length 9 (((wordsOf [] (l.map S39.f2)).idxOf s : Nat) : Int)
    unfold which
    omega)
  have h3 : (txK l k).length ≤ 100000 := by simp only [txK, List.length_map, List.length_take]; omega
  have h4 : 10 * (txK l k).length ≤ 10 * 100000 := Nat.mul_le_mul_left _ h3
  omega
/-- A step that turns a map alone. -/
theorem Own.turn {B : Nat} {w0 W W2 : World} {v : Value} {xs : List Int} (h : Own (Kd.int .u8) 5 B w0 W v xs) {g : Nat} {es : Array MapEntry} {c : Nat} (hb : W.heap[g]? = some (.map es c)) (hg : W.grownBy W2 (some g)) (hB : B ≤ g) : Own (Kd.int .u8) 5 B w0 W2 v xs :=
  ⟨Kd.R_mono (Kd.R_grown (Kd.R_tight rfl h.r) hg (fun k hk e => by
    obtain ⟨cells, hcc⟩ := Kd.R_typed h.r k hk.symm
    injection e with e
    subst e
    rw [hcc] at hb
    cases hb)) (fun _ _ => trivial), h.b.grown hg h.s (fun k e => by injection e with e; omega), Nat.le_trans h.s hg.size⟩
def GP137.T9 : Bool × List (List Nat × List Nat) := (true, [([], []), ([], []), ([1], [1]), ([2], [2]), ([3], [3]), ([0, 4], [0, 4]), ([], []), ([6], [6]), ([5, 7, 5], [5, 7]), ([8, 8, 0, 1, 2, 3, 4, 5, 6, 7, 8], [0, 8])])
def GP137.B9 : List Nat := [0, 0, 2, 6, 14, 31, 0, 64, 255, 511]
theorem GP137.tab9 : rtab .any (opsOf Try.f137 9) = GP137.T9 := by kernel_rfl
theorem GP137.bits9 : waitsOk GP137.T9.2 GP137.B9 = true := by kernel_rfl
set_option maxRecDepth 100000 in
set_option maxHeartbeats 3200000 in
theorem putTexts_any (A : Option Addr) (c : Nat) (l : List S39) (hl : l.length ≤ 100000) (hsz : ∀ x ∈ l, x.f2.size ≤ 400000) (w : World) (hr : Kd.C k39 w A l.length l) :
    Calls Try.prog 137 #[.slice A l.length c] w fun e w' => ∃ v0_ : Value, e = .returned v0_ ∧ Kd.R (Kd.int .u8) 5 w' w.heap.size (fun _ => True) v0_ (encTexts (l.map S39.f2)) ∧ Below w.heap.size w w' := by
  have HR := Aside0.mk hr
  have HSZ := Aside0.mk hsz
  have hmm := @run_makeMap Try.prog
  have HB0 := Aside0.mk (show Below w.heap.size w (w.alloc (.map #[] 0)) from below_alloc (Below.refl _ _) _)
  have HS0 := Aside0.mk (show w.heap.size ≤ (w.alloc (.map #[] 0)).heap.size by simp)
  have HM0 : Aside0 ((w.alloc (.map #[] 0)).heap[w.heap.size]? = some (.map (mapT (wdK l 0)) (wdK l 0).length)) := ⟨by rw [heap_alloc_new]; rfl⟩
  clear hr hsz
  go_enter Try.func137, Try.ntmps137
  go_wp2
  go_loopw [4, 5, 7, 8, 9, 13] (fun v4 v5 _ _ _ v13 W => ∃ k : Nat, k ≤ l.length ∧ v13 = .int .i64 k ∧ Aside0 (Own (Kd.int .u8) 5 w.heap.size w W v4 ((wdK l k).flatMap encT)) ∧ Aside0 (Own (Kd.int .u8) 5 w.heap.size w W v5 (whK l k)) ∧ Aside0 (W.heap[w.heap.size]? = some (.map (mapT (wdK l k)) (wdK l k).length))) (fun _ _ _ _ _ v13 _ => l.length - (intOf v13).toNat)
  case atStart => exact ⟨0, Nat.zero_le _, rfl, ⟨Own.nil _ _ HB0.out HS0.out⟩, ⟨Own.nil _ _ HB0.out HS0.out⟩, HM0⟩
  case round =>
    clear HB0 HS0 HM0 hmm
    obtain ⟨k, hk, rfl, HO4, HO5, HM⟩ := hrel
    have HWB := Aside0.mk (wdK_bytes l k hl HSZ.out)
    have HHB := Aside0.mk (whK_bytes l k hl)
    obtain ⟨A4, n4, c4, e4, hn4, hc4, hC4⟩ := HO4.out.sl'
    obtain ⟨A5, n5, c5, e5, hn5, hc5, hC5⟩ := HO5.out.sl'
    subst e4 e5
    obtain ⟨XW, hXW⟩ : ∃ X, X = (wdK l k).flatMap encT := ⟨_, rfl⟩
    obtain ⟨XH, hXH⟩ : ∃ X, X = whK l k := ⟨_, rfl⟩
    rw [← hXW] at HO4 hn4 hC4 HWB
    rw [← hXH] at HO5 hn5 hC5 HHB
    have HXW := Aside0.mk hXW
    have HXH := Aside0.mk hXH
    obtain rfl : n4 = XW.length := hn4.out
    obtain rfl : n5 = XH.length := hn5.out
    clear hXW hXH hn4 hn5
    by_cases hlt : k < l.length
    · have hkn : (k : Int) < (l.length : Int) := by omega
      obtain ⟨ad, e, h0, h1, h2⟩ := at_T39 (Kd.C_below HR.out HO4.out.b) (k : Int) (by omega) hkn
      cases e
      rw [Int.toNat_natCast] at h0 h1 h2
      have HW1 := Aside0.mk (wdK_succ l k hlt)
      have HH1 := Aside0.mk (whK_succ l k hlt)
      have hxs := HSZ.out _ (rdT_mem hlt)
      obtain ⟨x, hx⟩ : ∃ x, x = rd_T39 l (k : Int) := ⟨_, rfl⟩
      rw [← hx] at h0 h1 h2 HW1 HH1 hxs
      clear hx
      obtain ⟨s, hs⟩ : ∃ s, s = x.f2 := ⟨_, rfl⟩
      rw [← hs] at h2 HW1 HH1 hxs
      clear hs
      have hgl : w.heap.size < wr.heap.size := (Array.getElem?_eq_some_iff.1 HM.out).1
      have HMB : Aside0 ((wr.alloc (.cells #[.int .u8 x.f0, .int .i64 x.f1, .string s] 39)).heap[w.heap.size]? = some (.map (mapT (wdK l k)) (wdK l k).length)) := ⟨((below_alloc (Below.refl _ _) _ : Below wr.heap.size wr (wr.alloc (.cells #[.int .u8 x.f0, .int .i64 x.f1, .string s] 39))).block _ hgl).trans HM.out⟩
      have HND := Aside0.mk (wdK_nodup l k)
      have HND1 := Aside0.mk (wdK_nodup l (k + 1))
      have hwl := wdK_len l k
      have hwl1 := wdK_len l (k + 1)
      by_cases hin : s ∈ wdK l k
      · have HWE : Aside0 (wdK l (k + 1) = wdK l k) := ⟨by rw [HW1.out, if_pos hin]⟩
        have hil := List.idxOf_lt_length_of_mem hin
        rw [HWE.out] at HH1
        obtain ⟨ml1, ml2⟩ := mapT_look (wr.alloc (.cells #[.int .u8 x.f0, .int .i64 x.f1, .string s] 39)) (wdK l k) HMB.out HND.out s hin
        obtain ⟨i, hi⟩ : ∃ i, i = (wdK l k).idxOf s := ⟨_, rfl⟩
        rw [← hi] at ml1 ml2 hil HH1
        have hu1 : (i : Int) % 18446744073709551616 = (i : Int) := by omega
        have hu2 : (0 : Int) ≤ (i : Int) := by omega
        have HP := Aside0.mk (show varint_Put.f XH (i : Int) = some (XH ++ vput 9 (i : Int)) by unfold varint_Put.f; have := HHB.out; exact if_pos ⟨by omega, by omega, by omega⟩)
        have HCB := Aside0.mk (Kd.C_alloc hC5.out (.cells #[.int .u8 x.f0, .int .i64 x.f1, .string s] 39))
        have HO4b := Aside0.mk (HO4.out.alloc (.cells #[.int .u8 x.f0, .int .i64 x.f1, .string s] 39))
        have HO5b := Aside0.mk (HO5.out.alloc (.cells #[.int .u8 x.f0, .int .i64 x.f1, .string s] 39))
        have HGL := Aside0.mk (show w.heap.size < (wr.alloc (.cells #[.int .u8 x.f0, .int .i64 x.f1, .string s] 39)).heap.size by simp; omega)
        clear hi hin hil hwl hwl1 HW1 HND HND1 hxs hgl
        go_wp2_with (first
          | (go_at_call 80; refine (varint_Put.calls A5 c5 XH (i : Int) _ _ HCB.out hc5 HP.out).mono ?_; rintro e w5 ⟨v5, rfl, hr5, hd5⟩; have HO5' := Aside0.mk (Own.made HO5b.out.b HO5b.out.s hr5 hd5); have HO4' := Aside0.mk (HO4b.out.step hd5); have HM' := Aside0.mk ((hd5.block _ HGL.out).trans HMB.out); clear hr5 hd5))
        go_roundw
        case rel => exact ⟨k + 1, by omega, by go_num, ⟨HO4'.out.of_cast (by rw [HXW.out, HWE.out])⟩, ⟨HO5'.out.of_cast (by rw [HXH.out, HH1.out])⟩, ⟨by rw [HWE.out]; exact HM'.out⟩⟩
        case measure => simp [intOf]; omega
      · have HWE : Aside0 (wdK l (k + 1) = wdK l k ++ [s]) := ⟨by rw [HW1.out, if_neg hin]⟩
        have hin1 : s ∈ wdK l (k + 1) := by rw [HWE.out]; simp
        have hil := List.idxOf_lt_length_of_mem hin1
        have ml1 := mapT_look_no (wr.alloc (.cells #[.int .u8 x.f0, .int .i64 x.f1, .string s] 39)) (wdK l k) HMB.out s hin (by kernel_rfl)
        have ml2 := fun ty => mapT_len (wr.alloc (.cells #[.int .u8 x.f0, .int .i64 x.f1, .string s] 39)) (wdK l k) HMB.out ty
        obtain ⟨W2, ml3, hm2, hg2⟩ := mapT_store (wr.alloc (.cells #[.int .u8 x.f0, .int .i64 x.f1, .string s] 39)) (wdK l k) HMB.out s hin
        have hlt2 : wr.heap.size < (wr.alloc (.cells #[.int .u8 x.f0, .int .i64 x.f1, .string s] 39)).heap.size := by simp
        have hne : some wr.heap.size ≠ some w.heap.size := fun e => by injection e with e; omega
        have hq2 : W2.cell? ⟨wr.heap.size, 2, none⟩ = some (.string s) := by
          rw [World.cell?_of_block (a := ⟨wr.heap.size, 2, none⟩) (hg2.block wr.heap.size hlt2 hne), cell_of_row _ _ _ _ _ _ (heap_alloc_new wr _)]
          rfl
        have HQ : Aside0 (∀ W' : World, Below W2.heap.size W2 W' → W'.cell? ⟨wr.heap.size, 2, none⟩ = some (.string s)) := ⟨fun W' hW => (hW.cell (World.block_lt_of_cell? _ _ hq2)).trans hq2⟩
        have HO4b := Aside0.mk ((HO4.out.alloc (.cells #[.int .u8 x.f0, .int .i64 x.f1, .string s] 39)).turn HMB.out hg2 (Nat.le_refl _))
        have HO5b := Aside0.mk ((HO5.out.alloc (.cells #[.int .u8 x.f0, .int .i64 x.f1, .string s] 39)).turn HMB.out hg2 (Nat.le_refl _))
        have HC4 := Aside0.mk (Kd.R_reads' HO4b.out.r).2.2
        have B1 := Aside0.mk (below_drew1 (Below.refl W2.heap.size W2))
        have HM2 := Aside0.mk hm2
        have HG2 := Aside0.mk (Nat.lt_of_lt_of_le (Nat.lt_trans hgl hlt2) hg2.size)
        have HP := Aside0.mk (show varint_Put.f XW s.size = some (XW ++ vput 9 s.size) by unfold varint_Put.f; have := HWB.out; exact if_pos ⟨by omega, by omega, by omega⟩)
        have hlen : (XW ++ vput 9 s.size).length + s.size ≤ 140737488355328 := by
          have := vput_length 9 (s.size : Int); have := HWB.out
          rw [List.length_append]
          omega
        have hu1 : (s.size : Int) % 18446744073709551616 = (s.size : Int) := by omega
        have hu2 : (0 : Int) ≤ (s.size : Int) := by omega
        have hu3 : IntKind.u64.wrap (s.size : Int) = s.size := hu1
        have HIL := Aside0.mk hil
        have HIN1 := Aside0.mk hin1
        have HWL1 := Aside0.mk hwl1
        clear hin hil hwl hwl1 HW1 HND hxs hgl hlt2 hne hm2 hg2 hin1
        go_wp2_with fail
        refine start_ (n := 10) (S := fun W' => Below W2.heap.size W2 W' ∧ W'.cell? ⟨wr.heap.size, 2, none⟩ = some (.string s)) (ds := []) #[false, false, false, false, false, false, false, false, false, false] (by kernel_rfl) rfl rfl (⟨B1.out, HQ.out _ B1.out⟩) (fun hHeld => ?_)
        refine with_tabW GP137.tab9 GP137.bits9 (fun HT_ HW_ => ?_)
        refine pure_ (i := 0) (N := some 31) (v := ?_) (a' := ?_) #[true, false, false, false, false, false, false, false, false, false] rfl rfl (any_of HT_.out (by kernel_rfl)) (fun _ _ _ h => h) (Or.inl ⟨by rfl, ?_⟩) ?_ ?_
        rotate_left
        · intro w'
          go_simp
          with_reducible rfl
        rotate_left
        · simp only [Act.put, List.setIfInBounds_toArray, List.set_cons_zero, List.set_cons_succ, i64_w, i32_w]
          rfl
        refine pure_ (i := 1) (N := some 32) (v := ?_) (a' := ?_) #[true, true, false, false, false, false, false, false, false, false] rfl rfl (any_of HT_.out (by kernel_rfl)) (fun _ _ _ h => h) (Or.inl ⟨by rfl, ?_⟩) ?_ ?_
        rotate_left
        · intro w'
          go_simp
          with_reducible rfl
        rotate_left
        · simp only [Act.put, List.setIfInBounds_toArray, List.set_cons_zero, List.set_cons_succ, i64_w, i32_w]
          rfl
        refine take_ (i := 2) (N := some 33) (v := ?_) (a' := ?_) #[true, true, true, false, false, false, false, false, false, false] rfl rfl (take_ofW HT_.out HW_.out (by kernel_rfl)) (fun _ _ _ h => h) (Or.inl ⟨by rfl, ?_⟩) hHeld ?_ ?_
        rotate_left
        · intro w' s0
          (try dsimp only at s0)
          (try go_split_ands)
          go_simp
          with_reducible rfl
        rotate_left
        · simp only [Act.put, List.setIfInBounds_toArray, List.set_cons_zero, List.set_cons_succ, i64_w, i32_w]
          rfl
        refine pure_ (i := 3) (N := some 34) (v := ?_) (a' := ?_) #[true, true, true, true, false, false, false, false, false, false] rfl rfl (any_of HT_.out (by kernel_rfl)) (fun _ _ _ h => h) (Or.inl ⟨by rfl, ?_⟩) ?_ ?_
        rotate_left
        · intro w'
          go_simp
          with_reducible rfl
        rotate_left
        · simp only [Act.put, List.setIfInBounds_toArray, List.set_cons_zero, List.set_cons_succ, i64_w, i32_w]
          rfl
        refine pure_ (i := 4) (N := some 35) (v := ?_) (a' := ?_) #[true, true, true, true, true, false, false, false, false, false] rfl rfl (any_of HT_.out (by kernel_rfl)) (fun _ _ _ h => h) (Or.inl ⟨by rfl, ?_⟩) ?_ ?_
        rotate_left
        · intro w'
          go_simp
          with_reducible rfl
        rotate_left
        · simp only [Act.put, List.setIfInBounds_toArray, List.set_cons_zero, List.set_cons_succ, i64_w, i32_w]
          rfl
        refine pure_ (i := 6) (N := some 37) (v := ?_) (a' := ?_) #[true, true, true, true, true, false, true, false, false, false] rfl rfl (any_of HT_.out (by kernel_rfl)) (fun _ _ _ h => h) (Or.inl ⟨by rfl, ?_⟩) ?_ ?_
        rotate_left
        · intro w'
          go_simp
          with_reducible rfl
        rotate_left
        · simp only [Act.put, List.setIfInBounds_toArray, List.set_cons_zero, List.set_cons_succ, i64_w, i32_w]
          rfl
        refine take_ (i := 7) (N := some 38) (v := ?_) (a' := ?_) #[true, true, true, true, true, false, true, true, false, false] rfl rfl (take_ofW HT_.out HW_.out (by kernel_rfl)) (fun _ _ _ h => h) (Or.inl ⟨by rfl, ?_⟩) hHeld ?_ ?_
        rotate_left
        · intro w' s0
          (try dsimp only at s0)
          (try go_split_ands)
          go_simp
          with_reducible rfl
        rotate_left
        · simp only [Act.put, List.setIfInBounds_toArray, List.set_cons_zero, List.set_cons_succ, i64_w, i32_w]
          rfl
        refine one_ (i := 5) (N := some 36) #[true, true, true, true, true, true, true, true, false, false] rfl rfl (one_of HT_.out (by kernel_rfl)) (by decide) (fun K hK => ?_)
        refine goes_ Try.func80 (by kernel_rfl) rfl #[.slice A4 XW.length c4, .int .u64 s.size] (by rfl) rfl rfl (by (try simp only [List.map_toArray, List.map_cons, List.map_nil]); first | done | rfl) ?_
        refine (varint_Put.calls A4 c4 XW s.size _ _ (Kd.C_below HC4.out B1.out) hc4 HP.out).mono ?_
        rintro e w3 ⟨v3, rfl, hr, hd⟩
        have B2 := Aside0.mk (below_then B1.out B1.out.size hd)
        have HX := Aside0.mk (Own.made B1.out B1.out.size hr hd)
        clear hr hd
        refine ⟨_, rfl, ?_⟩
        refine hK.out _ _ (⟨B2.out, HQ.out _ B2.out⟩) (fun hHeld => ?_)
        clear hK K
        refine norm_ (a' := ?_) ?_ ?_
        rotate_left
        · show Act.put _ (some 36) _ = _
          simp only [Act.put, List.setIfInBounds_toArray, List.set_cons_zero, List.set_cons_succ, i64_w, i32_w]
          rfl
        refine one_ (i := 8) (N := some 39) #[true, true, true, true, true, true, true, true, true, false] rfl rfl (one_of HT_.out (by kernel_rfl)) (by decide) (fun K hK => ?_)
        refine str_step (by rfl) rfl (.tmp 36) (.tmp 38) rfl s (by rfl) (by rfl) HX.out hlen ?_
        intro v6 w6 ho
        have HY := Aside0.mk ho
        clear ho
        refine hK.out _ _ (⟨HY.out.b, HQ.out _ HY.out.b⟩) (fun hHeld => ?_)
        clear hK K
        refine norm_ (a' := ?_) ?_ ?_
        rotate_left
        · show Act.put _ (some 39) _ = _
          simp only [Act.put, List.setIfInBounds_toArray, List.set_cons_zero, List.set_cons_succ, i64_w, i32_w]
          rfl
        refine pure_ (i := 9) (N := some 4) (v := ?_) (a' := ?_) #[true, true, true, true, true, true, true, true, true, true] rfl rfl (any_of HT_.out (by kernel_rfl)) (fun _ _ _ h => h) (Or.inl ⟨by rfl, ?_⟩) ?_ ?_
        rotate_left
        · intro w'
          go_simp
          with_reducible rfl
        rotate_left
        · simp only [Act.put, List.setIfInBounds_toArray, List.set_cons_zero, List.set_cons_succ, i64_w, i32_w]
          rfl
        refine done_ (done_of HT_.out (by kernel_rfl)) ?_
        clear hu1 hu2 hu3 hlen hq2 ml1 ml2 ml3
        have HO4' := Aside0.mk (Own.made HO4b.out.b HO4b.out.s HY.out.r HY.out.b)
        have HO5' := Aside0.mk (HO5b.out.step HY.out.b)
        have HM6 := Aside0.mk ((HY.out.b.block _ HG2.out).trans HM2.out)
        rw [← HWE.out] at HM6
        have hil := HIL.out
        have hwl1 := HWL1.out
        have ml4 := (mapT_look w6 (wdK l (k + 1)) HM6.out HND1.out s HIN1.out).2
        obtain ⟨i, hi⟩ : ∃ i, i = (wdK l (k + 1)).idxOf s := ⟨_, rfl⟩
        rw [← hi] at ml4 hil HH1
        have hu1 : (i : Int) % 18446744073709551616 = (i : Int) := by omega
        have hu2 : (0 : Int) ≤ (i : Int) := by omega
        have HP2 := Aside0.mk (show varint_Put.f XH (i : Int) = some (XH ++ vput 9 (i : Int)) by unfold varint_Put.f; have := HHB.out; exact if_pos ⟨by omega, by omega, by omega⟩)
        have HC5b := Aside0.mk (Kd.R_reads' HO5'.out.r).2.2
        have HG6 := Aside0.mk (Nat.lt_of_lt_of_le HG2.out HY.out.b.size)
        have hq6 := HQ.out _ HY.out.b
        clear hi hil hwl1
        go_wp2_with (first
          | (go_at_call 80; refine (varint_Put.calls A5 c5 XH (i : Int) _ _ HC5b.out hc5 HP2.out).mono ?_; rintro e w5 ⟨v5, rfl, hr5, hd5⟩; have HO5' := Aside0.mk (Own.made HO5'.out.b HO5'.out.s hr5 hd5); have HO4' := Aside0.mk (HO4'.out.step hd5); have HM' := Aside0.mk ((hd5.block _ HG6.out).trans HM6.out); clear hr5 hd5))
        go_roundw
        case rel => exact ⟨k + 1, by omega, by go_num, ⟨HO4'.out.of_cast (by rw [HXW.out, HWE.out, List.flatMap_append]; simp [encT])⟩, ⟨HO5'.out.of_cast (by rw [HXH.out, HH1.out])⟩, HM'⟩
        case measure => simp [intOf]; omega
    · obtain rfl : l.length = k := by omega
      have ml2 := fun ty => mapT_len wr (wdK l l.length) HM.out ty
      have hwl := wdK_len l l.length
      have HFE : Aside0 ((([vput 9 ((wdK l l.length).length : Int), XW, XH] : List (List Int)).flatten = encTexts (l.map S39.f2))) := ⟨by
        have ht : txK l l.length = l.map S39.f2 := by unfold txK; rw [List.take_length]
        rw [HXW.out, HXH.out]
        unfold whK wdK encTexts
        rw [ht]
        simp⟩
      obtain ⟨n, hn⟩ : ∃ n, n = (wdK l l.length).length := ⟨_, rfl⟩
      rw [← hn] at ml2 hwl HFE
      obtain ⟨M1, hM1⟩ : ∃ M, M = vput 9 (n : Int) := ⟨_, rfl⟩
      rw [← hM1] at HFE
      have hml := vput_length 9 (n : Int)
      rw [← hM1] at hml
      have HP := Aside0.mk (show varint_Put.f [] (n : Int) = some M1 by unfold varint_Put.f; rw [hM1]; exact if_pos ⟨by decide, by omega, by omega⟩)
      have MP : Aside0 (Calls Try.prog 80 #[.slice none 0 0, .int .u64 (n : Int)] wr fun e w' => ∃ A1 c1, e = .returned (.slice A1 M1.length c1) ∧ M1.length ≤ c1 ∧ Kd.C (Kd.int .u8) w' A1 M1.length M1 ∧ Below wr.heap.size wr w') := ⟨(varint_Put.calls none 0 [] (n : Int) M1 wr (Kd.C_nil _ _) (Nat.le_refl _) HP.out).mono fun e w' h => by
        obtain ⟨v, rfl, hr, hb⟩ := h
        obtain ⟨A1, c1, e1, hc1, hC1⟩ := Kd.R_reads hr
        subst e1
        exact ⟨A1, c1, rfl, hc1, hC1, hb⟩⟩
      have hu1 : (n : Int) % 18446744073709551616 = (n : Int) := by omega
      have hu2 : (0 : Int) ≤ (n : Int) := by omega
      have hu3 : IntKind.u64.wrap (n : Int) = n := hu1
      have MC : Aside0 (∀ (w1 : World) (A1 : Option Addr) (c1 : Nat), M1.length ≤ c1 → Kd.C (Kd.int .u8) w1 A1 M1.length M1 → Below wr.heap.size wr w1 → Calls Try.prog 116 #[.slice (some ⟨w1.heap.size, 0, none⟩) 3 3] (w1.alloc (.cells #[.slice A1 M1.length c1, .slice A4 XW.length c4, .slice A5 XH.length c5] 22)) fun e w' => ∃ v, e = .returned v ∧ Kd.R (Kd.int .u8) 5 w' w.heap.size (fun _ => True) v (encTexts (l.map S39.f2)) ∧ Below w.heap.size w w') := ⟨fun w1 A1 c1 hc1 hC1 hb => by
        have hC4' := Kd.C_below hC4.out hb
        have hC5' := Kd.C_below hC5.out hb
        have hBa := below_then HO4.out.b HO4.out.s hb
        have hSa := Nat.le_trans HO4.out.s hb.size
        have hCC : Kd.C (Kd.slice 5 (Kd.int .u8)) (w1.alloc (.cells #[.slice A1 M1.length c1, .slice A4 XW.length c4, .slice A5 XH.length c5] 22)) (some ⟨w1.heap.size, 0, none⟩) [M1, XW, XH].length [M1, XW, XH] :=
          lit_row (Kd.slice 5 (Kd.int .u8)) (inner := [.slice A1 M1.length c1, .slice A4 XW.length c4, .slice A5 XH.length c5]) (heap_alloc_new w1 _) [M1, XW, XH]
            (Reps.one (by exact ⟨A1, c1, rfl, hc1, Kd.C_alloc hC1 _⟩) (Reps.one (by exact ⟨A4, c4, rfl, hc4, Kd.C_alloc hC4' _⟩) (Reps.one (by exact ⟨A5, c5, rfl, hc5, Kd.C_alloc hC5' _⟩) (Reps.none _ _)))) (by simp)
        refine (concat_any (some ⟨w1.heap.size, 0, none⟩) 3 [M1, XW, XH] (by simp) (by have := HWB.out; have := HHB.out; simp; omega) _ hCC).mono ?_
        rintro e w' ⟨v, rfl, ho⟩
        refine ⟨v, rfl, ?_⟩
        have h1 := Own.made (hBa.alloc hSa _) (Nat.le_trans hSa (by simp)) (ho.of_cast HFE.out).r ho.b
        exact ⟨h1.r, h1.b⟩⟩
      clear hn hM1 hml hwl hlt hk
      go_wp2_with (first
        | (go_at_call 80; refine MP.out.mono ?_; rintro e w1 ⟨A1, c1, rfl, hc1, hC1, hb1⟩; have HC1 := Aside0.mk hC1; have HB1 := Aside0.mk hb1; clear hC1 hb1)
        | (go_at_call 116; refine (MC.out w1 A1 c1 hc1 HC1.out HB1.out).mono ?_; rintro e w2 ⟨v2, rfl, hr2, hb2⟩; have HR2 := Aside0.mk hr2; have HB2 := Aside0.mk hb2; clear hr2 hb2))
      go_ret
      exact ⟨_, rfl, HR2.out, HB2.out⟩
def column_putTexts.f (l : List S39) : Option (List Int) := if l.length ≤ 100000 ∧ (l.all fun x => decide (x.f2.size ≤ 400000)) = true then some (encTexts (l.map S39.f2)) else none
theorem column_putTexts.calls (A0 : Option Addr) (c0 : Nat) (l0 : List S39) (r : List Int) (w : World) (hr0 : Kd.C k39 w A0 l0.length l0) (hc0 : l0.length ≤ c0) (h : column_putTexts.f l0 = some r) :
    Calls Try.prog 137 #[.slice A0 l0.length c0] w fun e w' => ∃ v0_ : Value, e = .returned v0_ ∧ Kd.R (Kd.int .u8) 5 w' w.heap.size (fun _ => True) v0_ r ∧ Below w.heap.size w w' := by
  unfold column_putTexts.f at h
  split at h
  · rename_i h1
    injection h with h
    subst h
    obtain ⟨h1, h2⟩ := h1
    rw [List.all_eq_true] at h2
    exact putTexts_any A0 c0 l0 h1 (fun x hx => by simpa using h2 x hx) w hr0
  · cases h
end Go.Proofs.Ytlmcefhpnfoahaa.P
end
