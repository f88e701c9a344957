/- Part 0 of what the laws of this chapter stand on: texts of this session, gathered. Condition: none beside those that each theorem states. -/
import Derived.Below
import Derived.Deep.Draws
import Derived.Deep.AppendLies
import Derived.Maps.AppendAt
import Derived.OwnWalk
import Derived.Laws.BytesArg
import Derived.Laws.MakeOwn
import Derived.Laws.OwnMore
import Derived.Deep.OwnRows
import Derived.Tactics
import Derived.Lib.ConvBytes
import Derived.Laws.Slices
import Derived.WalkKit
import Derived.KernelRfl
import Derived.RowKit3
import Derived.Deep.LoopGhost
import Derived.Deep.QuietTactic
import Derived.BigQuiet
import Derived.WideLaws
import Derived.Deep.DeepCutAuto
import Derived.Deep.CutBlock
import Derived.Deep.RegionHeld3
import Derived.Laws.Rows
import Derived.Lib.AppendStr
import Derived.ArgAppend
import Derived.Laws.IdiomCopy
import Derived.OrdersHeld
import Derived.Laws.BitsLemmas
import Derived.RowKit
import Derived.Test.YtlmcefhpnfoahaaProg
import Derived.Test.YtlmcefhpnfoahaaWWords
import Derived.Test.YtlmcefhpnfoahaaWLast
import Derived.Test.YtlmcefhpnfoahaaWTab
import Derived.Test.YtlmcefhpnfoahaaWFour
import Derived.Test.YtlmcefhpnfoahaaWQPut
import Derived.Test.YtlmcefhpnfoahaaWApart
import Derived.Test.YtlmcefhpnfoahaaWArr
import Derived.Test.YtlmcefhpnfoahaaWZeros
import Derived.Test.YtlmcefhpnfoahaaWFoot
import Derived.Test.YtlmcefhpnfoahaaWKept
import Derived.Test.YtlmcefhpnfoahaaWShare
import Derived.Test.YtlmcefhpnfoahaaWN
import Derived.Test.YtlmcefhpnfoahaaWFootNe
import Derived.Test.YtlmcefhpnfoahaaWAt
import Derived.Test.YtlmcefhpnfoahaaWEqStruct
import Derived.Test.YtlmcefhpnfoahaaWRepsOne
import Derived.Test.YtlmcefhpnfoahaaWInv
import Derived.Test.YtlmcefhpnfoahaaWInvWords
import Derived.Test.YtlmcefhpnfoahaaWGuard
import Derived.Test.YtlmcefhpnfoahaaWNEv
import Derived.Test.YtlmcefhpnfoahaaWMore
import Derived.Laws.BitsAllLaws
import Derived.IntWalk
import Derived.ChangeMaps5
import Derived.Carry
import Derived.Deep.Slices
import Derived.Deep.Strs
import Derived.ProofKit
import Derived.ChangeOld
section
namespace Go.Proofs.Ytlmcefhpnfoahaa.P
open Go.RowKit Go.Proofs.YtlmcefhpnfoahaaW.PrintWords Go.Proofs.YtlmcefhpnfoahaaW.PrintLast Go.Proofs.YtlmcefhpnfoahaaW.PrintMore
attribute [local go_sem] max2_int min2_int max_two min_two max_three min_three max_four min_four   -- for this text's walks alone
set_option linter.unusedVariables false
set_option linter.unusedSimpArgs false



def errW : Option Int → Value
  | none => .nilIface
  | some c => .iface 0 (.int .i64 c)
theorem errW_none : errW none = .nilIface := rfl
theorem errW_some (c : Int) : errW (some c) = .iface 0 (.int .i64 c) := rfl

theorem info2 : (Try.prog.info? 2).map (fun i => (i.zero, i.size, i.bytes)) = some (some (.int .i64 0), 1, 8) := by kernel_rfl
theorem info4 : (Try.prog.info? 4).map (fun i => (i.zero, i.size, i.bytes)) = some (some (.bool false), 1, 1) := by kernel_rfl
theorem info5 : (Try.prog.info? 5).map (fun i => (i.zero, i.size, i.bytes)) = some (some (.int .u8 0), 1, 1) := by kernel_rfl
theorem info9 : (Try.prog.info? 9).map (fun i => (i.zero, i.size, i.bytes)) = some (some (.string ⟨#[]⟩), 1, 16) := by kernel_rfl
theorem info22 : (Try.prog.info? 22).map (fun i => (i.zero, i.size, i.bytes)) = some (some (.slice none 0 0), 1, 24) := by kernel_rfl
theorem info23 : (Try.prog.info? 23).map (fun i => (i.zero, i.size, i.bytes)) = some (some (.slice none 0 0), 1, 24) := by kernel_rfl
theorem info39 : (Try.prog.info? 39).map (fun i => (i.zero, i.size, i.bytes)) = some (some (.agg #[(.int .u8 0), (.int .i64 0), (.string ⟨#[]⟩)]), 3, 32) := by kernel_rfl
theorem info84 : (Try.prog.info? 84).map (fun i => (i.zero, i.size, i.bytes)) = some (some (.int .u64 0), 1, 8) := by kernel_rfl
-- the values' own types
/-! #### struct type 39 -/
structure S39 where
  f0 : Int
  f1 : Int
  f2 : ByteArray
def z39 : S39 := ⟨(0 : Int), (0 : Int), (⟨#[]⟩ : ByteArray)⟩
def k39 : Kd S39 := Kd.iso (Kd.pair (Kd.int .u8) (Kd.pair (Kd.int .i64) Kd.string)) (fun x : S39 => (x.f0, x.f1, x.f2))
theorem k39_heap : Kd.Heap k39 := Kd.heap_iso _ (Kd.heap_pair (Kd.heap_int .u8) (Kd.heap_pair (Kd.heap_int .i64) Kd.heap_string))
theorem k39_open {w : World} {x : S39} {cs : List Value} (h : k39.K w x cs) : cs = [.int .u8 x.f0, .int .i64 x.f1, .string x.f2] := by
  obtain ⟨_, _, rfl, rfl, ⟨_, _, rfl, rfl, rfl⟩⟩ := h
  exact rfl
theorem k39_openM {w : World} {base : Nat} {ok : Nat → Prop} {x : S39} {cs : List Value} (h : k39.M w base ok x cs) : cs = [.int .u8 x.f0, .int .i64 x.f1, .string x.f2] := by
  obtain ⟨_, _, rfl, rfl, ⟨_, _, rfl, rfl, rfl⟩⟩ := h
  exact rfl
theorem k39_mk (w : World) (x : S39)  : k39.K w x [.int .u8 x.f0, .int .i64 x.f1, .string x.f2] := ⟨[.int .u8 x.f0], [.int .i64 x.f1, .string x.f2], rfl, rfl, ⟨[.int .i64 x.f1], [.string x.f2], rfl, rfl, rfl⟩⟩
theorem k39_mkM (w : World) (base : Nat) (ok : Nat → Prop) (x : S39)  : k39.M w base ok x [.int .u8 x.f0, .int .i64 x.f1, .string x.f2] := ⟨[.int .u8 x.f0], [.int .i64 x.f1, .string x.f2], rfl, rfl, ⟨[.int .i64 x.f1], [.string x.f2], rfl, rfl, rfl⟩⟩
theorem k39_mkF (W : World) (ok : Nat → Prop) (x : S39) : Kd.FK k39 W ok x [.int .u8 x.f0, .int .i64 x.f1, .string x.f2] := fun W2 _ => k39_mk W2 x
def rd_T39 (xs : List S39) (i : Int) : S39 := xs.getD i.toNat z39
theorem at_T39 {w : World} {A : Option Addr} {n : Nat} {xs : List S39} (h : Kd.C k39 w A n xs) (i : Int) (h0 : 0 ≤ i) (h1 : i < n) : ∃ ad , A = some ad ∧ w.cell? (ad.add (i.toNat * 3)) = some (.int .u8 (rd_T39 xs i).f0) ∧ w.cell? ⟨(ad.add (i.toNat * 3)).block, (ad.add (i.toNat * 3)).off + 1, none⟩ = some (.int .i64 (rd_T39 xs i).f1) ∧ w.cell? ⟨(ad.add (i.toNat * 3)).block, (ad.add (i.toNat * 3)).off + 2, none⟩ = some (.string (rd_T39 xs i).f2) := by
  obtain ⟨ad, c, e, _, hK, hc0⟩ := Kd.C_get h z39 i h0 h1
  have hc : ∀ j u, c[j]? = some u → w.cell? (ad.add (i.toNat * 3 + j)) = some u := hc0
  obtain rfl := k39_open hK
  exact ⟨ad, e, hc 0 _ rfl, by rw [← add_field _ _ 1 (by omega)]; exact hc 1 _ rfl, by rw [← add_field _ _ 2 (by omega)]; exact hc 2 _ rfl⟩

/-! #### struct type 36 -/
structure S36 where
  f0 : ByteArray
  f1 : Int
def z36 : S36 := ⟨(⟨#[]⟩ : ByteArray), (0 : Int)⟩
def k36 : Kd S36 := Kd.iso (Kd.pair Kd.string (Kd.int .i64)) (fun x : S36 => (x.f0, x.f1))
theorem k36_heap : Kd.Heap k36 := Kd.heap_iso _ (Kd.heap_pair Kd.heap_string (Kd.heap_int .i64))
theorem k36_open {w : World} {x : S36} {cs : List Value} (h : k36.K w x cs) : cs = [.string x.f0, .int .i64 x.f1] := by
  obtain ⟨_, _, rfl, rfl, rfl⟩ := h
  exact rfl
theorem k36_openM {w : World} {base : Nat} {ok : Nat → Prop} {x : S36} {cs : List Value} (h : k36.M w base ok x cs) : cs = [.string x.f0, .int .i64 x.f1] := by
  obtain ⟨_, _, rfl, rfl, rfl⟩ := h
  exact rfl
theorem k36_mk (w : World) (x : S36)  : k36.K w x [.string x.f0, .int .i64 x.f1] := ⟨[.string x.f0], [.int .i64 x.f1], rfl, rfl, rfl⟩
theorem k36_mkM (w : World) (base : Nat) (ok : Nat → Prop) (x : S36)  : k36.M w base ok x [.string x.f0, .int .i64 x.f1] := ⟨[.string x.f0], [.int .i64 x.f1], rfl, rfl, rfl⟩
theorem k36_mkF (W : World) (ok : Nat → Prop) (x : S36) : Kd.FK k36 W ok x [.string x.f0, .int .i64 x.f1] := fun W2 _ => k36_mk W2 x
def rd_T36 (xs : List S36) (i : Int) : S36 := xs.getD i.toNat z36
theorem at_T36 {w : World} {A : Option Addr} {n : Nat} {xs : List S36} (h : Kd.C k36 w A n xs) (i : Int) (h0 : 0 ≤ i) (h1 : i < n) : ∃ ad , A = some ad ∧ w.cell? (ad.add (i.toNat * 2)) = some (.string (rd_T36 xs i).f0) ∧ w.cell? ⟨(ad.add (i.toNat * 2)).block, (ad.add (i.toNat * 2)).off + 1, none⟩ = some (.int .i64 (rd_T36 xs i).f1) := by
  obtain ⟨ad, c, e, _, hK, hc0⟩ := Kd.C_get h z36 i h0 h1
  have hc : ∀ j u, c[j]? = some u → w.cell? (ad.add (i.toNat * 2 + j)) = some u := hc0
  obtain rfl := k36_open hK
  exact ⟨ad, e, hc 0 _ rfl, by rw [← add_field _ _ 1 (by omega)]; exact hc 1 _ rfl⟩

def rd_L5 (xs : List (List S39)) (i : Int) : (List S39) := xs.getD i.toNat ([] : List S39)
theorem at_L5 {w : World} {A : Option Addr} {n : Nat} {xs : List (List S39)} (h : Kd.C (Kd.slice 39 k39) w A n xs) (i : Int) (h0 : 0 ≤ i) (h1 : i < n) : ∃ ad A0 c0, A = some ad ∧ w.cell? (ad.add i.toNat) = some (.slice A0 (rd_L5 xs i).length c0) ∧ (rd_L5 xs i).length ≤ c0 ∧ k39.C w A0 (rd_L5 xs i).length (rd_L5 xs i) := by
  obtain ⟨ad, c, e, _, hK, hc0⟩ := Kd.C_get h ([] : List S39) i h0 h1
  have hc : ∀ j u, c[j]? = some u → w.cell? (ad.add (i.toNat * 1 + j)) = some u := hc0
  obtain ⟨A0, c0, rfl, l0, g0⟩ := hK
  exact ⟨ad, A0, c0, e, by have hq := hc 0 _ rfl; rwa [Nat.mul_one, Nat.add_zero] at hq, l0, g0⟩

def rd_L6 (xs : List (List Int)) (i : Int) : (List Int) := xs.getD i.toNat ([] : List Int)
theorem at_L6 {w : World} {A : Option Addr} {n : Nat} {xs : List (List Int)} (h : Kd.C (Kd.slice 5 (Kd.int .u8)) w A n xs) (i : Int) (h0 : 0 ≤ i) (h1 : i < n) : ∃ ad A0 c0, A = some ad ∧ w.cell? (ad.add i.toNat) = some (.slice A0 (rd_L6 xs i).length c0) ∧ (rd_L6 xs i).length ≤ c0 ∧ (Kd.int .u8).C w A0 (rd_L6 xs i).length (rd_L6 xs i) := by
  obtain ⟨ad, c, e, _, hK, hc0⟩ := Kd.C_get h ([] : List Int) i h0 h1
  have hc : ∀ j u, c[j]? = some u → w.cell? (ad.add (i.toNat * 1 + j)) = some u := hc0
  obtain ⟨A0, c0, rfl, l0, g0⟩ := hK
  exact ⟨ad, A0, c0, e, by have hq := hc 0 _ rfl; rwa [Nat.mul_one, Nat.add_zero] at hq, l0, g0⟩

/-! #### struct type 58 -/
structure S58 where
  f0 : ByteArray
  f1 : Int
def z58 : S58 := ⟨(⟨#[]⟩ : ByteArray), (0 : Int)⟩
def k58 : Kd S58 := Kd.iso (Kd.pair Kd.string (Kd.int .i64)) (fun x : S58 => (x.f0, x.f1))
theorem k58_heap : Kd.Heap k58 := Kd.heap_iso _ (Kd.heap_pair Kd.heap_string (Kd.heap_int .i64))
theorem k58_open {w : World} {x : S58} {cs : List Value} (h : k58.K w x cs) : cs = [.string x.f0, .int .i64 x.f1] := by
  obtain ⟨_, _, rfl, rfl, rfl⟩ := h
  exact rfl
theorem k58_openM {w : World} {base : Nat} {ok : Nat → Prop} {x : S58} {cs : List Value} (h : k58.M w base ok x cs) : cs = [.string x.f0, .int .i64 x.f1] := by
  obtain ⟨_, _, rfl, rfl, rfl⟩ := h
  exact rfl
theorem k58_mk (w : World) (x : S58)  : k58.K w x [.string x.f0, .int .i64 x.f1] := ⟨[.string x.f0], [.int .i64 x.f1], rfl, rfl, rfl⟩
theorem k58_mkM (w : World) (base : Nat) (ok : Nat → Prop) (x : S58)  : k58.M w base ok x [.string x.f0, .int .i64 x.f1] := ⟨[.string x.f0], [.int .i64 x.f1], rfl, rfl, rfl⟩
theorem k58_mkF (W : World) (ok : Nat → Prop) (x : S58) : Kd.FK k58 W ok x [.string x.f0, .int .i64 x.f1] := fun W2 _ => k58_mk W2 x
def rd_T58 (xs : List S58) (i : Int) : S58 := xs.getD i.toNat z58
theorem at_T58 {w : World} {A : Option Addr} {n : Nat} {xs : List S58} (h : Kd.C k58 w A n xs) (i : Int) (h0 : 0 ≤ i) (h1 : i < n) : ∃ ad , A = some ad ∧ w.cell? (ad.add (i.toNat * 2)) = some (.string (rd_T58 xs i).f0) ∧ w.cell? ⟨(ad.add (i.toNat * 2)).block, (ad.add (i.toNat * 2)).off + 1, none⟩ = some (.int .i64 (rd_T58 xs i).f1) := by
  obtain ⟨ad, c, e, _, hK, hc0⟩ := Kd.C_get h z58 i h0 h1
  have hc : ∀ j u, c[j]? = some u → w.cell? (ad.add (i.toNat * 2 + j)) = some u := hc0
  obtain rfl := k58_open hK
  exact ⟨ad, e, hc 0 _ rfl, by rw [← add_field _ _ 1 (by omega)]; exact hc 1 _ rfl⟩

/-! #### struct type 74 -/
structure S74 where
  f0 : Int
  f1 : ByteArray
  f2 : Int
  f3 : Int
def z74 : S74 := ⟨(0 : Int), (⟨#[]⟩ : ByteArray), (0 : Int), (0 : Int)⟩
def k74 : Kd S74 := Kd.iso (Kd.pair (Kd.int .u8) (Kd.pair Kd.string (Kd.pair (Kd.int .i64) (Kd.int .i64)))) (fun x : S74 => (x.f0, x.f1, x.f2, x.f3))
theorem k74_heap : Kd.Heap k74 := Kd.heap_iso _ (Kd.heap_pair (Kd.heap_int .u8) (Kd.heap_pair Kd.heap_string (Kd.heap_pair (Kd.heap_int .i64) (Kd.heap_int .i64))))
theorem k74_open {w : World} {x : S74} {cs : List Value} (h : k74.K w x cs) : cs = [.int .u8 x.f0, .string x.f1, .int .i64 x.f2, .int .i64 x.f3] := by
  obtain ⟨_, _, rfl, rfl, ⟨_, _, rfl, rfl, ⟨_, _, rfl, rfl, rfl⟩⟩⟩ := h
  exact rfl
theorem k74_openM {w : World} {base : Nat} {ok : Nat → Prop} {x : S74} {cs : List Value} (h : k74.M w base ok x cs) : cs = [.int .u8 x.f0, .string x.f1, .int .i64 x.f2, .int .i64 x.f3] := by
  obtain ⟨_, _, rfl, rfl, ⟨_, _, rfl, rfl, ⟨_, _, rfl, rfl, rfl⟩⟩⟩ := h
  exact rfl
theorem k74_mk (w : World) (x : S74)  : k74.K w x [.int .u8 x.f0, .string x.f1, .int .i64 x.f2, .int .i64 x.f3] := ⟨[.int .u8 x.f0], [.string x.f1, .int .i64 x.f2, .int .i64 x.f3], rfl, rfl, ⟨[.string x.f1], [.int .i64 x.f2, .int .i64 x.f3], rfl, rfl, ⟨[.int .i64 x.f2], [.int .i64 x.f3], rfl, rfl, rfl⟩⟩⟩
theorem k74_mkM (w : World) (base : Nat) (ok : Nat → Prop) (x : S74)  : k74.M w base ok x [.int .u8 x.f0, .string x.f1, .int .i64 x.f2, .int .i64 x.f3] := ⟨[.int .u8 x.f0], [.string x.f1, .int .i64 x.f2, .int .i64 x.f3], rfl, rfl, ⟨[.string x.f1], [.int .i64 x.f2, .int .i64 x.f3], rfl, rfl, ⟨[.int .i64 x.f2], [.int .i64 x.f3], rfl, rfl, rfl⟩⟩⟩
theorem k74_mkF (W : World) (ok : Nat → Prop) (x : S74) : Kd.FK k74 W ok x [.int .u8 x.f0, .string x.f1, .int .i64 x.f2, .int .i64 x.f3] := fun W2 _ => k74_mk W2 x
def rd_T74 (xs : List S74) (i : Int) : S74 := xs.getD i.toNat z74
theorem at_T74 {w : World} {A : Option Addr} {n : Nat} {xs : List S74} (h : Kd.C k74 w A n xs) (i : Int) (h0 : 0 ≤ i) (h1 : i < n) : ∃ ad , A = some ad ∧ w.cell? (ad.add (i.toNat * 4)) = some (.int .u8 (rd_T74 xs i).f0) ∧ w.cell? ⟨(ad.add (i.toNat * 4)).block, (ad.add (i.toNat * 4)).off + 1, none⟩ = some (.string (rd_T74 xs i).f1) ∧ w.cell? ⟨(ad.add (i.toNat * 4)).block, (ad.add (i.toNat * 4)).off + 2, none⟩ = some (.int .i64 (rd_T74 xs i).f2) ∧ w.cell? ⟨(ad.add (i.toNat * 4)).block, (ad.add (i.toNat * 4)).off + 3, none⟩ = some (.int .i64 (rd_T74 xs i).f3) := by
  obtain ⟨ad, c, e, _, hK, hc0⟩ := Kd.C_get h z74 i h0 h1
  have hc : ∀ j u, c[j]? = some u → w.cell? (ad.add (i.toNat * 4 + j)) = some u := hc0
  obtain rfl := k74_open hK
  exact ⟨ad, e, hc 0 _ rfl, by rw [← add_field _ _ 1 (by omega)]; exact hc 1 _ rfl, by rw [← add_field _ _ 2 (by omega)]; exact hc 2 _ rfl, by rw [← add_field _ _ 3 (by omega)]; exact hc 3 _ rfl⟩

end Go.Proofs.Ytlmcefhpnfoahaa.P
end

section
namespace Go.Proofs.Ytlmcefhpnfoahaa.P
open Go.RowKit Go.Proofs.YtlmcefhpnfoahaaW.PrintWords Go.Proofs.YtlmcefhpnfoahaaW.PrintLast Go.Proofs.YtlmcefhpnfoahaaW.PrintMore

/-- May a value be? -/
def mayB (x : S39) : Bool :=
  (x.f0 == 0 && x.f1 == 0 && x.f2.toList.isEmpty) || (x.f0 == 1 && (x.f1 == 0 || x.f1 == 1) && x.f2.toList.isEmpty) || (x.f0 == 2 && x.f2.toList.isEmpty) || (x.f0 == 3 && x.f1 == 0)
/-- A number's eight bytes. -/
def be8 (n : Int) : List Int := [56, 48, 40, 32, 24, 16, 8, 0].map fun j : Nat => (n + 9223372036854775808) / 2 ^ j % 256
/-- A text's bytes, ff behind each 0. -/
def esc : List Int → List Int
  | [] => []
  | c :: r => if c = 0 then 0 :: 255 :: esc r else c :: esc r
/-- A value's bytes. -/
def encV (x : S39) : List Int :=
  if x.f0 = 0 then [1] else if x.f0 = 1 then [2, x.f1 % 256] else if x.f0 = 2 then 3 :: be8 x.f1 else 4 :: (esc (bytesOf x.f2) ++ [0, 1])
/-- A row's bytes. -/
def encR (l : List S39) : List Int := l.flatMap encV
/-- Is a value's number one of 64 bits? -/
def okNum (x : S39) : Bool := decide (-9223372036854775808 ≤ x.f1) && decide (x.f1 ≤ 9223372036854775807)
def isByte (c : Int) : Bool := decide (0 ≤ c) && decide (c ≤ 255)
def key_Append.f (l0 : List Int) (l1 : List S39) : Option (List Int × Int) :=
  if l0.length + (encR l1).length ≤ 70368744177664 ∧ l1.all okNum = true then some (if l1.all mayB then (l0 ++ encR l1, 0) else ([], 1)) else none

theorem be8_length (n : Int) : (be8 n).length = 8 := rfl
theorem esc_append (a b : List Int) : esc (a ++ b) = esc a ++ esc b := by
  induction a with
  | nil => rfl
  | cons c r ih => simp only [List.cons_append, esc]; split <;> simp [ih]
theorem esc_ge (l : List Int) : l.length ≤ (esc l).length := by
  induction l with
  | nil => exact Nat.le_refl _
  | cons c r ih => simp only [esc]; split <;> simp <;> omega
theorem esc_take_le (l : List Int) (k : Nat) : (esc (l.take k)).length ≤ (esc l).length := by
  have h : esc l = esc (l.take k) ++ esc (l.drop k) := by rw [← esc_append, List.take_append_drop]
  rw [h, List.length_append]
  omega
theorem esc_snoc (l : List Int) (k : Nat) (h : k < l.length) : esc (l.take (k + 1)) = esc (l.take k) ++ (if rd l k = 0 then [rd l k, 255] else [rd l k]) := by
  rw [List.take_succ_eq_append_getElem h, esc_append]
  have e : rd l k = l[k] := by simp [rd, List.getD_eq_getElem?_getD, List.getElem?_eq_getElem h]
  rw [e]
  simp only [esc]
  split
  · rename_i h0; rw [h0]
  · rfl
theorem encR_snoc (l : List S39) (k : Nat) (h : k < l.length) : encR (l.take (k + 1)) = encR (l.take k) ++ encV (rd_T39 l k) := by
  unfold encR
  rw [List.take_succ_eq_append_getElem h, List.flatMap_append]
  simp [rd_T39, List.getD_eq_getElem?_getD, List.getElem?_eq_getElem h]
theorem encR_take_le (l : List S39) (k : Nat) : (encR (l.take k)).length ≤ (encR l).length := by
  have h : encR l = encR (l.take k) ++ encR (l.drop k) := by
    unfold encR
    rw [← List.flatMap_append, List.take_append_drop]
  rw [h, List.length_append]
  omega
theorem be8_take (n : Int) (j : Nat) (h : j < 8) : (be8 n).take (j + 1) = (be8 n).take j ++ [(n + 9223372036854775808) / 2 ^ (56 - 8 * j) % 256] := by
  have : j = 0 ∨ j = 1 ∨ j = 2 ∨ j = 3 ∨ j = 4 ∨ j = 5 ∨ j = 6 ∨ j = 7 := by omega
  rcases this with rfl | rfl | rfl | rfl | rfl | rfl | rfl | rfl <;> rfl
theorem xor_top (n : Int) (h1 : -9223372036854775808 ≤ n) (h2 : n ≤ 9223372036854775807) : bits .xor .u64 (IntKind.u64.wrap n) 9223372036854775808 = n + 9223372036854775808 := by
  have hw : ∀ m : Int, IntKind.u64.wrap m = m % 18446744073709551616 := fun m => rfl
  rw [hw]
  have hx : ∀ a : Nat, a < 9223372036854775808 → a ^^^ 9223372036854775808 = a + 9223372036854775808 := by
    intro a ha
    have e : (9223372036854775808 : Nat) = 2 ^ 63 * 1 := rfl
    have e2 : a = 2 ^ 63 * 0 + a := by omega
    rw [Nat.xor_comm, Nat.add_comm]
    have := Nat.two_pow_add_eq_or_of_lt (i := 63) (b := a) (by simpa using ha) 1
    rw [e, this]
    apply Nat.eq_of_testBit_eq
    intro i
    simp only [Nat.testBit_xor, Nat.testBit_or]
    by_cases hi : i = 63
    · subst hi
      have : a.testBit 63 = false := Nat.testBit_lt_two_pow (by simpa using ha)
      rw [this]
      simp
    · have : (2 ^ 63 * 1).testBit i = false := by
        rw [Nat.mul_one, Nat.testBit_two_pow]
        simp; omega
      rw [this]
      simp
  by_cases h0 : 0 ≤ n
  · have e : n % 18446744073709551616 = n := by omega
    rw [e, u64_xor n _ h0 (by omega) (by omega) (by omega)]
    have := hx n.toNat (by omega)
    have e9 : (9223372036854775808 : Int).toNat = 9223372036854775808 := rfl
    rw [e9, this]
    omega
  · have e : n % 18446744073709551616 = n + 18446744073709551616 := by omega
    rw [e, u64_xor _ _ (by omega) (by omega) (by omega) (by omega)]
    have e9 : (9223372036854775808 : Int).toNat = 9223372036854775808 := rfl
    rw [e9]
    have hb := hx (n + 9223372036854775808).toNat (by omega)
    have e3 : (n + 18446744073709551616).toNat = (n + 9223372036854775808).toNat ^^^ 9223372036854775808 := by rw [hb]; omega
    rw [e3, Nat.xor_assoc, Nat.xor_self, Nat.xor_zero]
    omega
/-- A number by its bytes, the highest first. -/
def num256 (l : List Int) : Int := l.foldl (fun u c => u * 256 + c) 0
def rdTruth (l : List Int) : S39 × List Int × Int := if l.length = 0 then (z39, [], 20) else if rd l 0 > 1 then (z39, [], 21) else (⟨1, rd l 0, ⟨#[]⟩⟩, l.drop 1, 0)
def rdNum (l : List Int) : S39 × List Int × Int := if l.length < 8 then (z39, [], 20) else (⟨2, num256 (l.take 8) - 9223372036854775808, ⟨#[]⟩⟩, l.drop 8, 0)
/-- A text up to its end: its bytes, what is left, the error. -/
def rdEsc : List Int → List Int → List Int × List Int × Int
  | _, [] => ([], [], 20)
  | s, c :: r => if c = 0 then (match r with
      | [] => ([], [], 20)
      | d :: r' => if d = 1 then (s, r', 0) else if d = 255 then rdEsc (s ++ [0]) r' else ([], [], 21)) else rdEsc (s ++ [c]) r
def rdText (l : List Int) : S39 × List Int × Int := if (rdEsc [] l).2.2 = 0 then (⟨3, 0, strOfNums (rdEsc [] l).1⟩, (rdEsc [] l).2.1, 0) else (z39, [], (rdEsc [] l).2.2)

/-- One value: by its first byte c; what stands behind it. -/
def stepR (c : Int) (r : List Int) : S39 × List Int × Int :=
  if c = 1 then (z39, r, 0) else if c = 2 then rdTruth r else if c = 3 then rdNum r else if c = 4 then rdText r else (z39, [], 21)
def parseF : Nat → List S39 → List Int → List S39 × Int
  | 0, out, _ => (out, 0)
  | k + 1, out, l => if l.length = 0 then (out, 0) else if (stepR (rd l 0) (l.drop 1)).2.2 = 0 then parseF k (out ++ [(stepR (rd l 0) (l.drop 1)).1]) (stepR (rd l 0) (l.drop 1)).2.1 else ([], (stepR (rd l 0) (l.drop 1)).2.2)
def key_Parse.f (l : List Int) : Option (List S39 × Int) :=
  if l.length ≤ 70368744177664 ∧ l.all isByte = true ∧ l.length ≤ 2199023255552 then some (parseF (l.length + 1) [] l) else none
def key_After.f (l : List Int) : Option (List Int) := if l.length ≤ 70368744177664 then some (l ++ [255]) else none
theorem rdEsc_length (n : Nat) : ∀ s l : List Int, l.length ≤ n → (rdEsc s l).2.1.length ≤ l.length := by
  induction n with
  | zero =>
    intro s l h
    obtain rfl : l = [] := List.eq_nil_of_length_eq_zero (by omega)
    unfold rdEsc
    simp
  | succ n ih =>
    intro s l h
    rcases l with _ | ⟨c, _ | ⟨d, r⟩⟩
    · unfold rdEsc; simp
    · unfold rdEsc
      split
      · simp
      · have := ih (s ++ [c]) [] (by simp)
        simp only [List.length_cons] at *
        omega
    · unfold rdEsc
      simp only [List.length_cons] at h
      split
      · dsimp only
        split
        · simp only [List.length_cons]; omega
        · split
          · have := ih (s ++ [0]) r (by omega)
            simp only [List.length_cons]; omega
          · simp
      · have := ih (s ++ [c]) (d :: r) (by simp only [List.length_cons]; omega)
        simp only [List.length_cons] at *
        omega
theorem stepR_length (c : Int) (r : List Int) : (stepR c r).2.1.length ≤ r.length := by
  unfold stepR
  split
  · exact Nat.le_refl _
  · split
    · unfold rdTruth
      split
      · simp
      · split
        · simp
        · simp
    · split
      · unfold rdNum
        split
        · simp
        · simp
      · split
        · unfold rdText
          split
          · exact rdEsc_length _ _ _ (Nat.le_refl _)
          · simp
        · simp
theorem rdEsc_bytes (n : Nat) : ∀ s l : List Int, l.length ≤ n → (∀ x ∈ l, isByte x = true) → ∀ x ∈ (rdEsc s l).2.1, isByte x = true := by
  induction n with
  | zero =>
    intro s l h
    obtain rfl : l = [] := List.eq_nil_of_length_eq_zero (by omega)
    unfold rdEsc
    simp
  | succ n ih =>
    intro s l h hb
    rcases l with _ | ⟨c, _ | ⟨d, r⟩⟩
    · unfold rdEsc; simp
    · unfold rdEsc
      split
      · simp
      · exact ih (s ++ [c]) [] (by simp) (by simp)
    · unfold rdEsc
      simp only [List.length_cons] at h
      split
      · dsimp only
        split
        · exact fun x hx => hb x (List.mem_cons_of_mem _ (List.mem_cons_of_mem _ hx))
        · split
          · exact ih (s ++ [0]) r (by omega) (fun x hx => hb x (List.mem_cons_of_mem _ (List.mem_cons_of_mem _ hx)))
          · simp
      · exact ih (s ++ [c]) (d :: r) (by simp only [List.length_cons]; omega) (fun x hx => hb x (List.mem_cons_of_mem _ hx))
theorem stepR_bytes (c : Int) (r : List Int) (hb : ∀ x ∈ r, isByte x = true) : ∀ x ∈ (stepR c r).2.1, isByte x = true := by
  unfold stepR
  split
  · exact hb
  · split
    · unfold rdTruth
      split
      · simp
      · split
        · simp
        · exact fun x hx => hb x (List.mem_of_mem_drop hx)
    · split
      · unfold rdNum
        split
        · simp
        · exact fun x hx => hb x (List.mem_of_mem_drop hx)
      · split
        · unfold rdText
          split
          · exact rdEsc_bytes _ _ _ (Nat.le_refl _) hb
          · simp
        · simp
theorem rd_isByte {l : List Int} (hb : ∀ x ∈ l, isByte x = true) (i : Nat) (h : i < l.length) : 0 ≤ rd l i ∧ rd l i ≤ 255 := by
  have e : rd l i = l[i] := by simp [rd, List.getD_eq_getElem?_getD, List.getElem?_eq_getElem h]
  rw [e]
  have := hb _ (List.getElem_mem h)
  unfold isByte at this
  simpa using this
theorem num256_snoc (l : List Int) (k : Nat) (h : k < l.length) : num256 (l.take (k + 1)) = num256 (l.take k) * 256 + rd l k := by
  have e : rd l k = l[k] := by simp [rd, List.getD_eq_getElem?_getD, List.getElem?_eq_getElem h]
  rw [e]
  unfold num256
  rw [List.take_succ_eq_append_getElem h, List.foldl_append]
  rfl
theorem num256_lt (l : List Int) (hb : ∀ x ∈ l, isByte x = true) (k : Nat) (h : k ≤ l.length) : 0 ≤ num256 (l.take k) ∧ num256 (l.take k) < 256 ^ k := by
  induction k with
  | zero => simp [num256]
  | succ k ih =>
    have := ih (by omega)
    have hr := rd_isByte hb k (by omega)
    rw [num256_snoc l k (by omega), Int.pow_succ]
    omega
theorem or_byte (u c : Int) (h0 : 0 ≤ u) (h1 : u < 72057594037927936) (h2 : 0 ≤ c) (h3 : c ≤ 255) : bits .or .u64 (u * 256) c = u * 256 + c := by
  rw [u64_or _ _ (by omega) (by omega) h2 (by omega)]
  have e : (u * 256).toNat ||| c.toNat = (u * 256).toNat + c.toNat := by
    have e1 : (u * 256).toNat = 2 ^ 8 * u.toNat := by omega
    rw [e1]
    exact (Nat.two_pow_add_eq_or_of_lt (i := 8) (b := c.toNat) (by omega) u.toNat).symm
  rw [e]
  omega
theorem xor_back (u : Int) (h0 : 0 ≤ u) (h1 : u < 18446744073709551616) : wrap64 (bits .xor .u64 u 9223372036854775808) = u - 9223372036854775808 := by
  have hw : ∀ m : Int, IntKind.u64.wrap m = m % 18446744073709551616 := fun m => rfl
  have h := xor_top (u - 9223372036854775808) (by omega) (by omega)
  rw [hw] at h
  have h2 : bits .xor .u64 u 9223372036854775808 = if u < 9223372036854775808 then u + 9223372036854775808 else u - 9223372036854775808 := by
    rw [u64_xor u _ h0 h1 (by omega) (by omega)]
    rw [u64_xor _ _ (by omega) (by omega) (by omega) (by omega)] at h
    have e9 : (9223372036854775808 : Int).toNat = 9223372036854775808 := rfl
    rw [e9] at h ⊢
    have h3 : ((u - 9223372036854775808) % 18446744073709551616).toNat ^^^ 9223372036854775808 = u.toNat := by omega
    rw [← h3, Nat.xor_assoc, Nat.xor_self, Nat.xor_zero]
    split <;> omega
  rw [h2]
  unfold wrap64
  split <;> omega
end Go.Proofs.Ytlmcefhpnfoahaa.P
end

section
namespace Go.Proofs.Ytlmcefhpnfoahaa.P
open Go.RowKit Go.Proofs.YtlmcefhpnfoahaaW.PrintWords Go.Proofs.YtlmcefhpnfoahaaW.PrintLast Go.Proofs.YtlmcefhpnfoahaaW.PrintMore
set_option linter.unusedVariables false
set_option linter.unusedSimpArgs false

/-- Bit i of bytes. -/
def bitAt (l : List Int) (i : Nat) : Bool := rd l ((i / 8 : Nat) : Int) / 2 ^ (i % 8) % 2 == 1
/-- Bit i of bytes is set. -/
def setBit (l : List Int) (i : Nat) : List Int := l.set (i / 8) (bits .or .u8 (rd l ((i / 8 : Nat) : Int)) (2 ^ (i % 8)))
theorem rd_set (l : List Int) (i j : Nat) (v : Int) (h : i < l.length) : rd (l.set i v) (j : Int) = if i = j then v else rd l (j : Int) := by
  simp only [rd, Int.toNat_natCast, List.getD_eq_getElem?_getD, List.getElem?_set]
  by_cases e : i = j
  · subst e; simp [h]
  · simp [e]
theorem or_bit (c j : Nat) (hc : c < 256) (hj : j < 8) : bits .or .u8 (c : Int) (2 ^ j) = ((c ||| 2 ^ j : Nat) : Int) := by
  have e : ((2 : Int) ^ j) = ((2 ^ j : Nat) : Int) := by simp
  have hp : 2 ^ j < 256 := Nat.lt_of_lt_of_le (Nat.pow_lt_pow_right (by decide) hj) (by decide)
  rw [e, u8_or_nat c (2 ^ j) hc hp]
theorem or_bit_lt (c j : Nat) (hc : c < 256) (hj : j < 8) : c ||| 2 ^ j < 256 := by
  have hp : 2 ^ j < 2 ^ 8 := Nat.pow_lt_pow_right (by decide) hj
  exact Nat.or_lt_two_pow (n := 8) hc hp
theorem bit_test (c i : Nat) : (((c : Int) / 2 ^ i % 2 == 1) : Bool) = c.testBit i := by
  rw [Nat.testBit_eq_decide_div_mod_eq]
  have e : ((c : Int) / 2 ^ i % 2) = ((c / 2 ^ i % 2 : Nat) : Int) := by simp
  rw [e]
  rw [Bool.eq_iff_iff]
  simp
  omega
theorem byte_nat {l : List Int} (hb : ∀ x ∈ l, isByte x = true) (i : Nat) : ∃ c : Nat, c < 256 ∧ rd l (i : Int) = (c : Int) := by
  by_cases h : i < l.length
  · obtain ⟨h0, h1⟩ := rd_isByte hb i h
    exact ⟨(rd l i).toNat, by omega, by omega⟩
  · exact ⟨0, by decide, by simp [rd, List.getD_eq_getElem?_getD, List.getElem?_eq_none (by omega : l.length ≤ i)]⟩
theorem setBit_length (l : List Int) (i : Nat) : (setBit l i).length = l.length := by simp [setBit]
theorem setBit_bytes {l : List Int} (hb : ∀ x ∈ l, isByte x = true) (i : Nat) : ∀ x ∈ setBit l i, isByte x = true := by
  intro x hx
  unfold setBit at hx
  rcases List.mem_or_eq_of_mem_set hx with h | h
  · exact hb x h
  · obtain ⟨c, hc, e⟩ := byte_nat hb (i / 8)
    rw [e, or_bit c _ hc (by omega)] at h
    have := or_bit_lt c (i % 8) hc (by omega)
    subst h
    simp [isByte]
    omega
theorem bitAt_setBit {l : List Int} (hb : ∀ x ∈ l, isByte x = true) (i j : Nat) (hi : i / 8 < l.length) : bitAt (setBit l i) j = (decide (i = j) || bitAt l j) := by
  unfold bitAt setBit
  rw [rd_set l (i / 8) (j / 8) _ hi]
  obtain ⟨c, hc, e⟩ := byte_nat hb (i / 8)
  by_cases h8 : i / 8 = j / 8
  · rw [if_pos h8, ← h8, e, or_bit c _ hc (by omega), bit_test, bit_test, Nat.testBit_or, Nat.testBit_two_pow]
    by_cases hij : i = j
    · subst hij; simp
    · have : ¬ i % 8 = j % 8 := by omega
      simp [hij, this]
  · rw [if_neg h8]
    have : ¬ i = j := by intro h; subst h; exact h8 rfl
    simp [this]
theorem bitAt_zeros (n i : Nat) : bitAt (List.replicate n 0) i = false := by
  unfold bitAt
  have e : rd (List.replicate n 0) ((i / 8 : Nat) : Int) = 0 := by
    simp only [rd, Int.toNat_natCast, List.getD_eq_getElem?_getD, List.getElem?_replicate]
    split <;> rfl
  rw [e]
  simp
/-- Bytes are told by their bits. -/
theorem bits_ext (a b : List Int) (ha : ∀ x ∈ a, isByte x = true) (hb : ∀ x ∈ b, isByte x = true) (hl : a.length = b.length) (h : ∀ i, i < 8 * a.length → bitAt a i = bitAt b i) : a = b := by
  apply List.ext_getElem hl
  intro k h1 h2
  have ea : rd a (k : Int) = a[k] := by simp [rd, List.getD_eq_getElem?_getD, List.getElem?_eq_getElem h1]
  have eb : rd b (k : Int) = b[k] := by simp [rd, List.getD_eq_getElem?_getD, List.getElem?_eq_getElem h2]
  rw [← ea, ← eb]
  obtain ⟨c, hc, e⟩ := byte_nat ha k
  obtain ⟨d, hd, f⟩ := byte_nat hb k
  rw [e, f]
  congr 1
  apply Nat.eq_of_testBit_eq
  intro i
  by_cases hi : i < 8
  · have := h (8 * k + i) (by omega)
    unfold bitAt at this
    rw [show (8 * k + i) / 8 = k by omega, show (8 * k + i) % 8 = i by omega, e, f, bit_test, bit_test] at this
    exact this
  · have hp : 256 ≤ 2 ^ i := by
      have : 2 ^ 8 ≤ 2 ^ i := Nat.pow_le_pow_right (by decide) (by omega)
      simpa using this
    rw [Nat.testBit_lt_two_pow (by omega), Nat.testBit_lt_two_pow (by omega)]
/-- The first n bits p as bytes: what is laid up to bit k. -/
def layN (p : Nat → Bool) (n : Nat) : Nat → List Int
  | 0 => List.replicate ((n + 7) / 8) 0
  | k + 1 => if p k then setBit (layN p n k) k else layN p n k
theorem layN_length (p : Nat → Bool) (n : Nat) : ∀ k, (layN p n k).length = (n + 7) / 8 := by
  intro k
  induction k with
  | zero => simp [layN]
  | succ k ih => unfold layN; split <;> simp [setBit_length, ih]
theorem layN_bytes (p : Nat → Bool) (n : Nat) : ∀ k, ∀ x ∈ layN p n k, isByte x = true := by
  intro k
  induction k with
  | zero => intro x hx; unfold layN at hx; rw [(List.mem_replicate.mp hx).2]; rfl
  | succ k ih => unfold layN; split; exact setBit_bytes ih k; exact ih
theorem layN_bit (p : Nat → Bool) (n : Nat) : ∀ k, k ≤ n → ∀ j, bitAt (layN p n k) j = (decide (j < k) && p j) := by
  intro k
  induction k with
  | zero => intro _ j; unfold layN; rw [bitAt_zeros]; simp
  | succ k ih =>
    intro hk j
    unfold layN
    by_cases hp : p k = true
    · rw [if_pos hp, bitAt_setBit (layN_bytes p n k) k j (by rw [layN_length]; omega), ih (by omega)]
      by_cases e : k = j
      · subst e; simp [hp]
      · have : (j < k + 1) ↔ (j < k) := by omega
        simp [e, this]
    · rw [if_neg hp, ih (by omega)]
      by_cases e : k = j
      · subst e; simp [hp]
      · have : (j < k + 1) ↔ (j < k) := by omega
        simp [this]
def lay (p : Nat → Bool) (n : Nat) : List Int := layN p n n
theorem lay_length (p : Nat → Bool) (n : Nat) : (lay p n).length = (n + 7) / 8 := layN_length p n n
theorem lay_bytes (p : Nat → Bool) (n : Nat) : ∀ x ∈ lay p n, isByte x = true := layN_bytes p n n
theorem lay_bit (p : Nat → Bool) (n : Nat) (j : Nat) : bitAt (lay p n) j = (decide (j < n) && p j) := layN_bit p n n (Nat.le_refl n) j
/-- Bytes whose bits behind the n-th are 0 are what is laid of their bits. -/
theorem lay_of (b : List Int) (n : Nat) (hb : ∀ x ∈ b, isByte x = true) (hl : b.length = (n + 7) / 8) (h : ∀ j, n ≤ j → j < 8 * b.length → bitAt b j = false) (p : Nat → Bool) (hp : ∀ j, j < n → p j = bitAt b j) : lay p n = b := by
  apply bits_ext _ _ (lay_bytes p n) hb (by rw [lay_length, hl])
  intro i hi
  rw [lay_bit]
  rw [lay_length, ← hl] at hi
  by_cases hn : i < n
  · simp [hn, hp i hn]
  · simp [hn, h i (by omega) hi]
theorem lay_congr (p q : Nat → Bool) (n : Nat) (h : ∀ j, j < n → p j = q j) : lay p n = lay q n := by
  apply bits_ext _ _ (lay_bytes p n) (lay_bytes q n) (by rw [lay_length, lay_length])
  intro i _
  rw [lay_bit, lay_bit]
  by_cases hn : i < n
  · simp [hn, h i hn]
  · simp [hn]
theorem bitAt_append (a b : List Int) (i : Nat) (h : i < 8 * a.length) : bitAt (a ++ b) i = bitAt a i := by
  unfold bitAt
  have e : rd (a ++ b) ((i / 8 : Nat) : Int) = rd a ((i / 8 : Nat) : Int) := by
    simp only [rd, Int.toNat_natCast, List.getD_eq_getElem?_getD]
    rw [List.getElem?_append_left (by omega)]
  rw [e]
theorem setBit_append (a b : List Int) (i : Nat) (h : i < 8 * a.length) : setBit (a ++ b) i = setBit a i ++ b := by
  unfold setBit
  have e : rd (a ++ b) ((i / 8 : Nat) : Int) = rd a ((i / 8 : Nat) : Int) := by
    simp only [rd, Int.toNat_natCast, List.getD_eq_getElem?_getD]
    rw [List.getElem?_append_left (by omega)]
  rw [e, List.set_append_left _ _ (by omega)]
/-- The bytes as the document lays them: a byte more at each eighth bit. -/
def bitsN (p : Nat → Bool) : Nat → List Int
  | 0 => []
  | k + 1 => if p k then (if k % 8 = 0 then bitsN p k ++ [0] else bitsN p k).set (k / 8) (rd (if k % 8 = 0 then bitsN p k ++ [0] else bitsN p k) ((k / 8 : Nat) : Int) + 2 ^ (k % 8)) else (if k % 8 = 0 then bitsN p k ++ [0] else bitsN p k)
theorem rd_zero_end (l : List Int) (i : Nat) : rd (l ++ [0]) (i : Int) = rd l (i : Int) := by
  simp only [rd, Int.toNat_natCast, List.getD_eq_getElem?_getD]
  by_cases h : i < l.length
  · rw [List.getElem?_append_left h]
  · rw [List.getElem?_append_right (by omega), List.getElem?_eq_none (by omega : l.length ≤ i)]
    by_cases e : i - l.length = 0
    · rw [e]; rfl
    · rw [List.getElem?_eq_none (by simp; omega)]
theorem or_add (c j : Nat) (hc : c < 256) (hj : j < 8) (h : c.testBit j = false) : c ||| 2 ^ j = c + 2 ^ j := by
  have : ∀ c : Nat, c < 256 → ∀ j : Nat, j < 8 → c.testBit j = false → c ||| 2 ^ j = c + 2 ^ j := by decide +kernel
  exact this c hc j hj h
theorem setBit_add (l : List Int) (hb : ∀ x ∈ l, isByte x = true) (k : Nat) (h : bitAt l k = false) : l.set (k / 8) (rd l ((k / 8 : Nat) : Int) + 2 ^ (k % 8)) = setBit l k := by
  unfold setBit
  obtain ⟨c, hc, e⟩ := byte_nat hb (k / 8)
  unfold bitAt at h
  rw [e, bit_test] at h
  rw [e, or_bit c _ hc (by omega), or_add c _ hc (by omega) h]
  simp
theorem bitsN_lay (p : Nat → Bool) : ∀ k, bitsN p k = lay p k := by
  intro k
  induction k with
  | zero => rfl
  | succ k ih =>
    obtain ⟨M, hM⟩ : ∃ M, M = if k % 8 = 0 then bitsN p k ++ [0] else bitsN p k := ⟨_, rfl⟩
    have hl : M.length = (k + 1 + 7) / 8 := by
      have := lay_length p k
      rw [hM, ih]
      split
      · rw [List.length_append, List.length_singleton]; omega
      · omega
    have hb : ∀ x ∈ M, isByte x = true := by
      have := lay_bytes p k
      rw [hM, ih]
      split
      · intro x hx
        rcases List.mem_append.mp hx with h | h
        · exact this x h
        · simp at h; subst h; rfl
      · exact this
    have hbit : ∀ j, bitAt M j = (decide (j < k) && p j) := by
      intro j
      rw [← lay_bit p k j, hM, ih]
      split
      · unfold bitAt; rw [rd_zero_end]
      · rfl
    have e : bitsN p (k + 1) = if p k then M.set (k / 8) (rd M ((k / 8 : Nat) : Int) + 2 ^ (k % 8)) else M := by
      show (if p k then _ else _) = _
      rw [← hM]
    have hk : bitAt M k = false := by rw [hbit]; simp
    rw [e, setBit_add M hb k hk]
    have hb2 : ∀ x ∈ (if p k then setBit M k else M), isByte x = true := by
      split
      · exact setBit_bytes hb k
      · exact hb
    apply bits_ext _ _ hb2 (lay_bytes p (k + 1))
    · rw [lay_length]; split <;> simp [setBit_length, hl]
    · intro j _
      rw [lay_bit]
      by_cases hp : p k = true
      · rw [if_pos hp, bitAt_setBit hb k j (by omega), hbit]
        by_cases e : k = j
        · subst e; simp [hp]
        · have : (j < k + 1) ↔ (j < k) := by omega
          simp [e, this]
      · rw [if_neg hp, hbit]
        by_cases e : k = j
        · subst e; simp [hp]
        · have : (j < k + 1) ↔ (j < k) := by omega
          simp [this]
end Go.Proofs.Ytlmcefhpnfoahaa.P
end

section
namespace Go.Proofs.Ytlmcefhpnfoahaa.P
open Go.RowKit Go.Proofs.YtlmcefhpnfoahaaW.PrintWords Go.Proofs.YtlmcefhpnfoahaaW.PrintLast Go.Proofs.YtlmcefhpnfoahaaW.PrintMore
set_option linter.unusedVariables false
set_option linter.unusedSimpArgs false

/-- What a block made just ahead of a call holds behind it. -/
theorem box_at {W W' : World} {cs : Array Value} {t : TypeId} (hb : Below (W.alloc (.cells cs t)).heap.size (W.alloc (.cells cs t)) W') (i : Nat) {v : Value} (h : cs[i]? = some v) : W'.cell? ⟨W.heap.size, i, none⟩ = some v := by
  have hs : (W.alloc (.cells cs t)).heap.size = W.heap.size + 1 := by simp
  have h1 : (W.alloc (.cells cs t)).cell? ⟨W.heap.size, i, none⟩ = some v := by
    rw [cell_of_row (W.alloc (.cells cs t)) W.heap.size i cs t (0, 0) (heap_alloc_new W _)]
    exact h
  rw [hb.cell (p := ⟨W.heap.size, i, none⟩) (by rw [hs]; exact Nat.lt_succ_self _)]
  exact h1
theorem below_size_le {B : Nat} {w W : World} (h : Below B w W) : w.heap.size ≤ W.heap.size := h.size

/-- A row of the call's own (base B: what is at hand when the call began), and what was there. -/
structure Own {α : Type} (d : Kd α) (e B : Nat) (w0 W : World) (v : Value) (xs : List α) : Prop where
  r : Kd.R d e W B (fun _ => True) v xs
  b : Below B w0 W
  s : B ≤ W.heap.size
section
variable {α : Type} {d : Kd α} {e B : Nat} {w0 W W' : World} {v : Value} {xs : List α}
theorem Own.nil (d : Kd α) (e : Nat) (hb : Below B w0 W) (hs : B ≤ W.heap.size) : Own d e B w0 W (.slice none 0 0) [] := ⟨Kd.R_nil _ _ _ _ _, hb, hs⟩
theorem Own.start (d : Kd α) (e : Nat) (w : World) : Own d e w.heap.size w w (.slice none 0 0) [] := ⟨Kd.R_nil _ _ _ _ _, Below.refl _ _, Nat.le_refl _⟩
theorem Own.step (h : Own d e B w0 W v xs) (hb : Below W.heap.size W W') : Own d e B w0 W' v xs := ⟨Kd.R_below h.r hb, below_then h.b h.s hb, Nat.le_trans h.s hb.size⟩
theorem Own.alloc (h : Own d e B w0 W v xs) (o : Obj) : Own d e B w0 (W.alloc o) v xs := h.step (below_alloc (Below.refl _ _) o)
theorem Own.drew (h : Own d e B w0 W v xs) : Own d e B w0 W.drew v xs := h.step (below_drew (Below.refl _ _))
theorem Own.drewN (h : Own d e B w0 W v xs) (n : Nat) : Own d e B w0 (W.drewN n) v xs := h.step (pw_below_drewN (Below.refl _ _) n)
theorem Own.sl (h : Own d e B w0 W v xs) : ∃ A c, v = .slice A xs.length c ∧ xs.length ≤ c ∧ d.C W A xs.length xs := Kd.R_reads h.r
theorem Own.len {A : Option Addr} {n c : Nat} (h : Own d e B w0 W (.slice A n c) xs) : n = xs.length := (Kd.R_reads' h.r).1
theorem Own.lt (h : Own d e B w0 W v xs) {k : Nat} (hk : v.ownBlock = some k) : k < W.heap.size := Kd.R_lt h.r k hk
theorem Own.of_cast (h : Own d e B w0 W v xs) {ys : List α} (e1 : xs = ys) : Own d e B w0 W v ys := by subst e1; exact h
end
/-- A block that an own row v is apart from. -/
structure Box (W : World) (g : Nat) (cs : Array Value) (t : TypeId) (fr : Nat × Nat) (v : Value) : Prop where
  h : W.heap[g]? = some (.cells cs t fr)
  n : v.ownBlock ≠ some g
section
variable {W W' w1 : World} {g : Nat} {cs : Array Value} {t : TypeId} {fr : Nat × Nat} {v v1 : Value}
theorem Box.lt (h : Box W g cs t fr v) : g < W.heap.size := (Array.getElem?_eq_some_iff.1 h.h).1
theorem Box.made {α : Type} {d : Kd α} {e B : Nat} {w0 : World} {xs : List α} (h : Own d e B w0 W v xs) (cs : Array Value) (t : TypeId) : Box (W.alloc (.cells cs t)) W.heap.size cs t (0, 0) v :=
  ⟨heap_alloc_new W _, fun hk => Nat.lt_irrefl _ (h.lt hk)⟩
theorem Box.step (h : Box W g cs t fr v) (hb : Below W.heap.size W W') : Box W' g cs t fr v := ⟨(hb.block g h.lt).trans h.h, h.n⟩
theorem Box.alloc (h : Box W g cs t fr v) (o : Obj) : Box (W.alloc o) g cs t fr v := h.step (below_alloc (Below.refl _ _) o)
theorem Box.drewN (h : Box W g cs t fr v) (n : Nat) : Box (W.drewN n) g cs t fr v := h.step (pw_below_drewN (Below.refl _ _) n)
theorem Box.app (h : Box W g cs t fr v) (hg : W.grownBy w1 v.ownBlock) (hat : v1.ownBlock = v.ownBlock ∨ ∃ b, v1.ownBlock = some b ∧ W.heap.size ≤ b) : Box w1 g cs t fr v1 := by
  refine ⟨(hg.block g h.lt (fun e => h.n e.symm)).trans h.h, ?_⟩
  rcases hat with e | ⟨b, e, hb⟩
  · rw [e]; exact h.n
  · rw [e]
    have := h.lt
    intro e2
    injection e2 with e2
    omega
theorem Box.cell (h : Box W g cs t fr v) (i : Nat) {u : Value} (hu : cs[i]? = some u) : W.cell? ⟨g, i, none⟩ = some u := (cell_of_row W g i cs t fr h.h).trans hu
end
section
variable {P : Program} {ops : Array Oper} {rest : List Oper} {o : Oper} {a : Act} {Q : Exit → Act → World → Prop}
/-- append(v, y0, y1, ..): whole bytes; the goal's world is that of the variadic's box. -/
theorem Own.app_bytes {B : Nat} {w0 W : World} {v : Value} {xs : List Int} (hO : Own (Kd.int .u8) 5 B w0 W v xs) (hgd : o.guard = none) (s x : Operand) (t : TypeId) (ys : List Int) (cs : List Value) (hcs : cs = nums .u8 ys)
    (ho : o.op = .call { callee := .builtin .append, args := #[s, x], argTypes := #[t, t] })
    (ht : P.underlying t = some (.slice 5)) (hinfo : (P.info? 5).map (fun i => (i.zero, i.size, i.bytes)) = some (some (.int .u8 0), 1, 1))
    (hs : a.eval s = v) (hx : a.eval x = .slice (some ⟨W.heap.size, 0, none⟩) cs.length cs.length)
    (hl : xs.length + ys.length ≤ 140737488355328)
    (h : ∀ v1 w1, Own (Kd.int .u8) 5 B w0 w1 v1 (xs ++ ys) → (W.alloc (.cells cs.toArray 5)).grownBy w1 v.ownBlock → (v1.ownBlock = v.ownBlock ∨ ∃ b, v1.ownBlock = some b ∧ (W.alloc (.cells cs.toArray 5)).heap.size ≤ b) → wpList P ops Q rest (a.put o.dst v1) w1) :
    wpList P ops Q (o :: rest) a (W.alloc (.cells cs.toArray 5)) := by
  subst hcs
  have hsz : (W.alloc (.cells (nums .u8 ys).toArray 5)).heap.size = W.heap.size + 1 := by simp
  have hlen : (nums .u8 ys).length = ys.length := nums_length _ _
  rw [hlen] at hx
  have hC : Kd.C (Kd.int .u8) (W.alloc (.cells (nums .u8 ys).toArray 5)) (some ⟨W.heap.size, 0, none⟩) ys.length ys := by
    refine Kd.C_of_reads (d := (0 : Int)) (h1 := fun _ => rfl) ⟨rfl, by omega, fun _ => ⟨_, rfl, fun j hj => ?_⟩⟩
    rw [add_plain, cell_of_row _ W.heap.size j _ 5 (0, 0) (heap_alloc_new W _)]
    simp [nums, List.getD_eq_getElem?_getD, List.getElem?_eq_getElem hj]
  refine Kd.R_append_rows (Kd.int .u8) (w0 := w0) B hgd s x t 5 (.int .u8 0) 1 ho ht hinfo rfl (by decide) (by omega) v xs ys (some ⟨W.heap.size, 0, none⟩) ys.length ys.length (fun _ => True) (fun _ => False) hs hx
    (hO.alloc _).r hC (fun _ _ h => h) (fun _ h => h.elim) (fun _ _ => trivial) (hO.alloc _).b (hO.alloc _).s (by omega) ?_
  intro v1 w1 ho1 hb hg hat
  refine h v1 w1 ⟨ho1, hb, ?_⟩ hg hat
  have := hO.s; have := hg.size; rw [hsz] at this; omega
/-- append(v, ys...): bytes that are read. -/
theorem Own.app_read {B : Nat} {w0 W : World} {v : Value} {xs : List Int} (hO : Own (Kd.int .u8) 5 B w0 W v xs) (hgd : o.guard = none) (s x : Operand) (t : TypeId) (ys : List Int) (A : Option Addr) (n c : Nat) (hC : Kd.C (Kd.int .u8) W A n ys)
    (ho : o.op = .call { callee := .builtin .append, args := #[s, x], argTypes := #[t, t] })
    (ht : P.underlying t = some (.slice 5)) (hinfo : (P.info? 5).map (fun i => (i.zero, i.size, i.bytes)) = some (some (.int .u8 0), 1, 1))
    (hs : a.eval s = v) (hx : a.eval x = .slice A n c)
    (hl : xs.length + n ≤ 140737488355328)
    (h : ∀ v1 w1, Own (Kd.int .u8) 5 B w0 w1 v1 (xs ++ ys) → W.grownBy w1 v.ownBlock → (v1.ownBlock = v.ownBlock ∨ ∃ b, v1.ownBlock = some b ∧ W.heap.size ≤ b) → wpList P ops Q rest (a.put o.dst v1) w1) :
    wpList P ops Q (o :: rest) a W := by
  refine Kd.R_append_rows (Kd.int .u8) (w0 := w0) B hgd s x t 5 (.int .u8 0) 1 ho ht hinfo rfl (by decide) (by omega) v xs ys A n c (fun _ => True) (fun _ => False) hs hx
    hO.r hC (fun _ _ h => h) (fun _ h => h.elim) (fun _ _ => trivial) hO.b hO.s (by omega) ?_
  intro v1 w1 ho1 hb hg hat
  exact h v1 w1 ⟨ho1, hb, by have := hO.s; have := hg.size; omega⟩ hg hat
end
section
variable {ops : Array Oper} {rest : List Oper} {o : Oper} {a : Act} {Q : Exit → Act → World → Prop} {B : Nat} {w0 W : World} {v : Value} {xs : List Int}
/-- append(v, y), append(v, y, z) of bytes, in the program at hand. -/
theorem Own.byte (hO : Own (Kd.int .u8) 5 B w0 W v xs) (hgd : o.guard = none) (s x : Operand) (y : Int)
    (ho : o.op = .call { callee := .builtin .append, args := #[s, x], argTypes := #[22, 22] }) (hs : a.eval s = v) (hx : a.eval x = .slice (some ⟨W.heap.size, 0, none⟩) 1 1) (hl : xs.length + 1 ≤ 140737488355328)
    (h : ∀ v1 w1, Own (Kd.int .u8) 5 B w0 w1 v1 (xs ++ [y]) → (W.alloc (.cells #[.int .u8 y] 5)).grownBy w1 v.ownBlock → (v1.ownBlock = v.ownBlock ∨ ∃ b, v1.ownBlock = some b ∧ (W.alloc (.cells #[.int .u8 y] 5)).heap.size ≤ b) → wpList Try.prog ops Q rest (a.put o.dst v1) w1) :
    wpList Try.prog ops Q (o :: rest) a (W.alloc (.cells #[.int .u8 y] 5)) :=
  hO.app_bytes hgd s x 22 [y] [.int .u8 y] rfl ho Try.underlying22 info5 hs hx hl h
theorem Own.byte2 (hO : Own (Kd.int .u8) 5 B w0 W v xs) (hgd : o.guard = none) (s x : Operand) (y z : Int)
    (ho : o.op = .call { callee := .builtin .append, args := #[s, x], argTypes := #[22, 22] }) (hs : a.eval s = v) (hx : a.eval x = .slice (some ⟨W.heap.size, 0, none⟩) 2 2) (hl : xs.length + 2 ≤ 140737488355328)
    (h : ∀ v1 w1, Own (Kd.int .u8) 5 B w0 w1 v1 (xs ++ [y, z]) → (W.alloc (.cells #[.int .u8 y, .int .u8 z] 5)).grownBy w1 v.ownBlock → (v1.ownBlock = v.ownBlock ∨ ∃ b, v1.ownBlock = some b ∧ (W.alloc (.cells #[.int .u8 y, .int .u8 z] 5)).heap.size ≤ b) → wpList Try.prog ops Q rest (a.put o.dst v1) w1) :
    wpList Try.prog ops Q (o :: rest) a (W.alloc (.cells #[.int .u8 y, .int .u8 z] 5)) :=
  hO.app_bytes hgd s x 22 [y, z] [.int .u8 y, .int .u8 z] rfl ho Try.underlying22 info5 hs hx hl h
/-- append(v, ys...) of bytes that are read. -/
theorem Own.bytes (hO : Own (Kd.int .u8) 5 B w0 W v xs) (hgd : o.guard = none) (s x : Operand) {ys : List Int} {A : Option Addr} {n c : Nat} (hC : Kd.C (Kd.int .u8) W A n ys)
    (ho : o.op = .call { callee := .builtin .append, args := #[s, x], argTypes := #[22, 22] }) (hs : a.eval s = v) (hx : a.eval x = .slice A n c) (hl : xs.length + n ≤ 140737488355328)
    (h : ∀ v1 w1, Own (Kd.int .u8) 5 B w0 w1 v1 (xs ++ ys) → W.grownBy w1 v.ownBlock → (v1.ownBlock = v.ownBlock ∨ ∃ b, v1.ownBlock = some b ∧ W.heap.size ≤ b) → wpList Try.prog ops Q rest (a.put o.dst v1) w1) :
    wpList Try.prog ops Q (o :: rest) a W :=
  hO.app_read hgd s x 22 ys A n c hC ho Try.underlying22 info5 hs hx hl h
end
/-- append(v, x), x one api.Value. -/
theorem Own.val {ops : Array Oper} {rest : List Oper} {o : Oper} {a : Act} {Q : Exit → Act → World → Prop} {B : Nat} {w0 W : World} {v : Value} {xs : List S39} (hO : Own k39 39 B w0 W v xs) (hgd : o.guard = none) (s x : Operand) (y : S39) {y0 y1 y2 : Value}
    (ho : o.op = .call { callee := .builtin .append, args := #[s, x], argTypes := #[23, 23] }) (e0 : y0 = .int .u8 y.f0) (e1 : y1 = .int .i64 y.f1) (e2 : y2 = .string y.f2) (hs : a.eval s = v) (hx : a.eval x = .slice (some ⟨W.heap.size, 0, none⟩) 1 1) (hl : xs.length + 1 ≤ 4398046511104)
    (h : ∀ v1 w1, Own k39 39 B w0 w1 v1 (xs ++ [y]) → W.grownBy w1 v.ownBlock → (v1.ownBlock = v.ownBlock ∨ ∃ b, v1.ownBlock = some b ∧ W.heap.size ≤ b) → wpList Try.prog ops Q rest (a.put o.dst v1) w1) :
    wpList Try.prog ops Q (o :: rest) a (W.alloc (.cells #[y0, y1, y2] 39)) := by
  subst e0 e1 e2
  refine Kd.R_append k39 (w0 := w0) B hgd s x 23 39 (.agg #[(.int .u8 0), (.int .i64 0), (.string ⟨#[]⟩)]) 32 ho Try.underlying23 info39 rfl (by decide) (by omega) v xs y [.int .u8 y.f0, .int .i64 y.f1, .string y.f2] (fun _ => True) (fun _ => False) hs hx (k39_mkM _ _ _ y) (fun _ hk => hk.elim) (fun _ _ => trivial) hO.r hO.b hO.s (by omega) ?_
  intro v1 w1 ho1 hb hg hat
  exact h v1 w1 ⟨ho1, hb, by have := hO.s; have := hg.size; omega⟩ hg hat
theorem Own.empty {α : Type} (d : Kd α) (e : Nat) {B : Nat} {w0 W : World} (hb : Below B w0 W) (hs : B ≤ W.heap.size) : Own d e B w0 (W.alloc (.cells #[] e)) (.slice (some ⟨W.heap.size, 0, none⟩) 0 0) [] := by
  have h := World.ownsRow_lit (base := B) (e := e) (size := d.sz) W #[] 0 hs (by simp) (by simp)
  refine ⟨⟨fun _ _ => trivial, [], by simpa using h, Reps.none _ _⟩, hb.alloc hs _, by simp; omega⟩
theorem Own.sl' {α : Type} {d : Kd α} {e B : Nat} {w0 W : World} {v : Value} {xs : List α} (h : Own d e B w0 W v xs) : ∃ A n c, v = .slice A n c ∧ Aside0 (n = xs.length) ∧ n ≤ c ∧ Aside0 (d.C W A n xs) := by
  obtain ⟨A, c, h1, h2, h3⟩ := h.sl
  exact ⟨A, xs.length, c, h1, ⟨rfl⟩, h2, ⟨h3⟩⟩
/-- append(v, ys...) of values that are read. -/
theorem Own.vals {ops : Array Oper} {rest : List Oper} {o : Oper} {a : Act} {Q : Exit → Act → World → Prop} {B : Nat} {w0 W : World} {v : Value} {xs : List S39} (hO : Own k39 39 B w0 W v xs) (hgd : o.guard = none) (s x : Operand) {ys : List S39} {A : Option Addr} {n c : Nat} (hC : Kd.C k39 W A n ys)
    (ho : o.op = .call { callee := .builtin .append, args := #[s, x], argTypes := #[23, 23] }) (hs : a.eval s = v) (hx : a.eval x = .slice A n c) (hl : xs.length + n ≤ 4398046511104)
    (h : ∀ v1 w1, Own k39 39 B w0 w1 v1 (xs ++ ys) → W.grownBy w1 v.ownBlock → (v1.ownBlock = v.ownBlock ∨ ∃ b, v1.ownBlock = some b ∧ W.heap.size ≤ b) → wpList Try.prog ops Q rest (a.put o.dst v1) w1) :
    wpList Try.prog ops Q (o :: rest) a W := by
  refine Kd.R_append_rows k39 (Rr := k39.K W) (w0 := w0) B hgd s x 23 39 (.agg #[(.int .u8 0), (.int .i64 0), (.string ⟨#[]⟩)]) 32 ho Try.underlying23 info39 rfl (by decide) (by omega) v xs ys A n c (fun _ => True) (fun _ => False) hs hx
    hO.r hC (fun y cs hK => by have := k39_open hK; subst this; exact k39_mkM _ _ _ y) (fun _ h => h.elim) (fun _ _ => trivial) hO.b hO.s (by omega) ?_
  intro v1 w1 ho1 hb hg hat
  exact h v1 w1 ⟨ho1, hb, by have := hO.s; have := hg.size; omega⟩ hg hat
/-- What a call has made, as a row of the caller's own. -/
theorem Own.made {α : Type} {d : Kd α} {e B : Nat} {w0 W W' : World} {v : Value} {xs : List α} (hb : Below B w0 W) (hs : B ≤ W.heap.size) (hr : Kd.R d e W' W.heap.size (fun _ => True) v xs) (hb' : Below W.heap.size W W') : Own d e B w0 W' v xs :=
  ⟨Kd.R_lower hr hs, below_then hb hs hb', Nat.le_trans hs hb'.size⟩
/-- An append to a block that was just made changes nothing that was there. -/
theorem below_fresh {W w1 : World} {o : Obj} {row : Option Nat} (hg : (W.alloc o).grownBy w1 row) (hr : ∀ k, row = some k → W.heap.size ≤ k) : Below W.heap.size W w1 :=
  ((Below.refl _ _).alloc (Nat.le_refl _) _).grown hg (by simp) hr
/-- A block of any kind that an own row v is apart from. -/
structure Blk (W : World) (g : Nat) (o : Obj) (v : Value) : Prop where
  h : W.heap[g]? = some o
  n : v.ownBlock ≠ some g
section
variable {W W' w1 : World} {g : Nat} {o : Obj} {v v1 : Value}
theorem Blk.lt (h : Blk W g o v) : g < W.heap.size := (Array.getElem?_eq_some_iff.1 h.h).1
theorem Blk.step (h : Blk W g o v) (hb : Below W.heap.size W W') : Blk W' g o v := ⟨(hb.block g h.lt).trans h.h, h.n⟩
theorem Blk.alloc (h : Blk W g o v) (o' : Obj) : Blk (W.alloc o') g o v := h.step (below_alloc (Below.refl _ _) o')
theorem Blk.drewN (h : Blk W g o v) (n : Nat) : Blk (W.drewN n) g o v := h.step (pw_below_drewN (Below.refl _ _) n)
theorem Blk.app (h : Blk W g o v) (hg : W.grownBy w1 v.ownBlock) (hat : v1.ownBlock = v.ownBlock ∨ ∃ b, v1.ownBlock = some b ∧ W.heap.size ≤ b) : Blk w1 g o v1 := by
  refine ⟨(hg.block g h.lt (fun e => h.n e.symm)).trans h.h, ?_⟩
  rcases hat with e | ⟨b, e, hb⟩
  · rw [e]; exact h.n
  · rw [e]
    have := h.lt
    intro e2
    injection e2 with e2
    omega
end
/-- []byte(s): the run, the block that it makes. -/
theorem conv_bytes (s : ByteArray) (W : World) : (convert 9 22 (.string s)).run Try.prog W = .ok (.slice (some ⟨W.heap.size, 0, none⟩) s.size (grownCap W s.size 0 5)) (Lib.bytesWorld W 5 s) :=
  print_bytes (P := Try.prog) 9 22 5 Try.underlying9 Try.underlying22 Try.underlying5 s W
theorem Own.bytesWorld {α : Type} {d : Kd α} {e B : Nat} {w0 W : World} {v : Value} {xs : List α} (h : Own d e B w0 W v xs) (s : ByteArray) : Own d e B w0 (Lib.bytesWorld W 5 s) v xs := h.step (bytes_below (Below.refl _ _) (Nat.le_refl _) 5 s)
theorem Box.bytesWorld {W : World} {g : Nat} {cs : Array Value} {t : TypeId} {fr : Nat × Nat} {v : Value} (h : Box W g cs t fr v) (s : ByteArray) : Box (Lib.bytesWorld W 5 s) g cs t fr v := h.step (bytes_below (Below.refl _ _) (Nat.le_refl _) 5 s)
theorem Box.conv {α : Type} {d : Kd α} {e B : Nat} {w0 W : World} {v : Value} {xs : List α} (h : Own d e B w0 W v xs) (s : ByteArray) : Box (Lib.bytesWorld W 5 s) W.heap.size (Lib.bytesCells W 5 s) 5 ((Lib.bytesCells W 5 s).size, (Lib.bytesCells W 5 s).size + 1) v :=
  ⟨Lib.bytesWorld_at_new W 5 s, fun hk => Nat.lt_irrefl _ (h.lt hk)⟩
theorem bytesCells_at (W : World) (s : ByteArray) (j : Nat) (hj : j < s.size) : (Lib.bytesCells W 5 s)[j]? = some (.int .u8 (rd (bytesOf s) j)) := by
  have h := Lib.bytesWorld_cell W 5 s j hj
  rw [cell_of_row _ _ j _ _ _ (Lib.bytesWorld_at_new W 5 s)] at h
  rw [h]
  have h' : j < s.data.toList.length := by rw [data_length]; exact hj
  simp [rd, bytesOf, List.getD_eq_getElem?_getD, List.getElem?_eq_getElem h']
theorem cell_new {w : World} {a : Addr} {v : Value} (h : w.cell? a = some v) (o : Obj) : (w.alloc o).cell? a = some v := pw_cell_below (below_alloc (Below.refl _ _) o) h
/-- 'b[j:]' of bytes that are read: what it is stands behind letters. -/
theorem cut_from (A : Option Addr) (n c : Nat) (l : List Int) (j : Int) (hn : l.length = n) (h0 : 0 ≤ j) (hm : j ≤ n) (hc : n ≤ c) :
    ∃ (A' : Option Addr) (n' c' : Nat), (∀ W : World, (Instr.slice 22 (.slice A n c) (some (.int .i64 j)) none none).run Try.prog W = .ok (.slice A' n' c') W) ∧ n' = n - j.toNat ∧ n' ≤ c' ∧
      (∀ W : World, Kd.C (Kd.int .u8) W A n l → Kd.C (Kd.int .u8) W A' n' (l.drop j.toNat)) := by
  obtain ⟨i0, hi, hzz⟩ := Option.map_eq_some_iff.1 info5
  simp only [Prod.mk.injEq] at hzz
  obtain ⟨A', h1, h2⟩ := print_cut (P := Try.prog) 22 5 .i64 Try.underlying22 hi hzz.2.1 A n c j.toNat (by omega)
  rw [Int.toNat_of_nonneg h0] at h1
  exact ⟨A', n - j.toNat, c - j.toNat, h1, rfl, by omega, fun W hC => Kd.C_of_reads (d := (0 : Int)) (h1 := fun _ => rfl) (h2 W .u8 l hc (Kd.reads_of_C (enc := Value.int .u8) (d := (0 : Int)) (h1 := fun _ => rfl) hC))⟩
/-- 'b[:j]' likewise. -/
theorem cut_to (A : Option Addr) (n c : Nat) (l : List Int) (j : Int) (hn : l.length = n) (h0 : 0 ≤ j) (hm : j ≤ n) (hc : n ≤ c) :
    ∃ (n' : Nat), (∀ W : World, (Instr.slice 22 (.slice A n c) none (some (.int .i64 j)) none).run Try.prog W = .ok (.slice A n' c) W) ∧ n' = j.toNat ∧ n' ≤ c ∧
      (∀ W : World, Kd.C (Kd.int .u8) W A n l → Kd.C (Kd.int .u8) W A n' (l.take j.toNat)) := by
  refine ⟨j.toNat, fun W => ?_, rfl, by omega, fun W hC => ?_⟩
  · have hel : Try.prog.elem 22 = 5 := by simp [Program.elem, Try.underlying22]
    have hu : Try.prog.underlying 22 = some (.slice (Try.prog.elem 22)) := by rw [hel]; exact Try.underlying22
    rw [run_slice_h W 22 A n c hu .i64 j h0 (by omega), hel]
    obtain ⟨i0, hi, hzz⟩ := Option.map_eq_some_iff.1 info5
    simp only [Prod.mk.injEq] at hzz
    simp [sizeOf, typeInfo, hi, hzz.2.1, sliced, Result.andThen]
    intro _
    cases A <;> simp [Addr.add_zero']
  · subst hn
    have := Kd.C_take hC (m := j.toNat) (by omega)
    rwa [show (l.take j.toNat).length = j.toNat by rw [List.length_take]; omega] at this
theorem C_rd {W : World} {A : Option Addr} {n : Nat} {l : List Int} (h : Kd.C (Kd.int .u8) W A n l) (i : Nat) (hi : i < n) : ∃ ad, A = some ad ∧ W.cell? (ad.add i) = some (.int .u8 (rd l i)) := by
  have := Kd.at_int h (i : Int) (by omega) (by omega)
  rwa [Int.toNat_natCast] at this
theorem Box.put3 {W : World} {g : Nat} {t : TypeId} {v a b c x y z : Value} (h : Box W g #[a, b, c] t (0, 0) v) :
    (((W.setCell ⟨g, 0, none⟩ x).setCell ⟨g, 1, none⟩ y).setCell ⟨g, 2, none⟩ z).heap[g]? = some (.cells #[x, y, z] t (0, 0)) :=
  blk_put (cs := #[x, y, c]) (blk_put (cs := #[x, b, c]) (blk_put (cs := #[a, b, c]) h.h 0 _ rfl) 1 _ rfl) 2 _ rfl
theorem below3 {B : Nat} {w0 W : World} (h : Below B w0 W) {g : Nat} (hg : B ≤ g) (x y z : Value) : Below B w0 (((W.setCell ⟨g, 0, none⟩ x).setCell ⟨g, 1, none⟩ y).setCell ⟨g, 2, none⟩ z) :=
  ((h.setCell hg x).setCell hg y).setCell hg z
/-- string(v), v a row of bytes of the call's own. -/
theorem Own.str {B : Nat} {w0 W : World} {A : Option Addr} {n c : Nat} {xs : List Int} (h : Own (Kd.int .u8) 5 B w0 W (.slice A n c) xs) : (convert 22 9 (.slice A n c)).run Try.prog W = .ok (.string (strOfNums xs)) W := by
  obtain ⟨h1, h2, h3⟩ := Kd.R_reads' h.r
  subst h1
  exact Kd.C_string Try.underlying22 Try.underlying5 Try.underlying9 h3
/-- A slice's length, for a loop's measure. -/
def lenOf : Value → Nat
  | .slice _ n _ => n
  | _ => 0
theorem Box.frz {W : World} {g : Nat} {cs : Array Value} {t : TypeId} {v : Value} (h : Box W g cs t (0, 0) v) (i : Nat) : W.frozen? ⟨g, i, none⟩ = false := blk_frozen h.h i
end Go.Proofs.Ytlmcefhpnfoahaa.P
end

section
namespace Go.Proofs.Ytlmcefhpnfoahaa.P
open Go.RowKit Go.Proofs.YtlmcefhpnfoahaaW.PrintWords Go.Proofs.YtlmcefhpnfoahaaW.PrintLast Go.Proofs.YtlmcefhpnfoahaaW.PrintMore
set_option linter.unusedVariables false
set_option linter.unusedSimpArgs false

/-- A number's bytes, seven bits each, the lowest first. -/
def vput : Nat → Int → List Int
  | 0, v => [v]
  | k + 1, v => if v ≥ 128 then (v % 128 + 128) :: vput k (v / 128) else [v]
theorem vput_length : ∀ (k : Nat) (v : Int), (vput k v).length ≤ k + 1 := by
  intro k
  induction k with
  | zero => intro v; simp [vput]
  | succ k ih =>
    intro v
    unfold vput
    have := ih (v / 128)
    split <;> simp <;> omega
theorem or128 (v : Int) (h0 : 0 ≤ v) : bits .or .u8 (v % 256) 128 = v % 128 + 128 := by
  have h : ∀ c : Nat, c < 256 → bits .or .u8 (c : Int) 128 = (c : Int) % 128 + 128 := by decide +kernel
  have h2 := h (v % 256).toNat (by omega)
  rw [Int.toNat_of_nonneg (by omega)] at h2
  rw [h2]
  omega
def varint_Put.f (l0 : List Int) (v : Int) : Option (List Int) := if l0.length ≤ 70368744177664 ∧ 0 ≤ v ∧ v ≤ 18446744073709551615 then some (l0 ++ vput 9 v) else none
set_option maxRecDepth 100000 in
set_option maxHeartbeats 1000000 in
theorem varint_Put.calls (A0 : Option Addr) (c0 : Nat) (l0 : List Int) (a1 : Int) (r : List Int) (w : World) (hr0 : Kd.C (Kd.int .u8) w A0 l0.length l0) (hc0 : l0.length ≤ c0) (h : varint_Put.f l0 a1 = some r) :
    Calls Try.prog 80 #[.slice A0 l0.length c0, .int .u64 a1] w fun e w' => ∃ v0_ : Value, e = .returned v0_ ∧ Kd.R (Kd.int .u8) 5 w' w.heap.size (fun _ => True) v0_ r ∧ Below w.heap.size w w' := by
  unfold varint_Put.f at h
  split at h
  case isFalse => cases h
  rename_i hcond
  obtain ⟨hl, h0, h1⟩ := hcond
  have HF := Aside0.mk (Option.some.inj h)
  clear h
  have HR0 := Aside0.mk hr0
  clear hr0
  go_enter Try.func80, Try.ntmps80
  go_wp2_with (first | (at_builtin; refine (Own.start (Kd.int .u8) 5 w).bytes rfl _ _ HR0.out rfl rfl rfl (by simp; omega) ?_; intro v1 w1 ho hg hat; have HO := Aside0.mk ho; clear ho hg hat))
  go_loopw [1, 5] (fun v1 v5 W => ∃ (k : Nat) (x : Int) (L : List Int), v1 = .int .u64 x ∧ 0 ≤ x ∧ x < 128 ^ (k + 1) ∧ x ≤ 18446744073709551615 ∧ L.length + k ≤ l0.length + 9 ∧ Aside0 (L ++ vput k x = r) ∧ Aside0 (Own (Kd.int .u8) 5 w.heap.size w W v5 L)) (fun v1 _ _ => (intOf v1).toNat)
  case atStart => exact ⟨9, a1, l0, rfl, h0, by omega, h1, by omega, HF, ⟨HO.out.of_cast (by simp)⟩⟩
  case round =>
    clear HO
    obtain ⟨k, x, L, rfl, hx0, hxk, hx1, hL, HE, HO⟩ := hrel
    by_cases hlt : 128 ≤ x
    · have ho := or128 x hx0
      have hg : x ≥ 128 := hlt
      have hLL : L.length + 1 ≤ 140737488355328 := by omega
      go_wp2_with (first
        | (at_builtin; refine HO.out.byte rfl _ _ _ rfl rfl rfl hLL ?_; intro v1 w1 ho hg hat; have HO1 := Aside0.mk ho; clear ho hg hat))
      obtain ⟨j, rfl⟩ : ∃ j, k = j + 1 := by
        rcases k with _ | j
        · simp at hxk; omega
        · exact ⟨j, rfl⟩
      have hE : Aside0 ((L ++ [x % 128 + 128]) ++ vput j (x / 128) = r) := ⟨by
        rw [← HE.out]
        simp [vput, hg]⟩
      have hP : x / 128 < 128 ^ (j + 1) := by
        rw [Int.pow_succ] at hxk
        generalize (128 : Int) ^ (j + 1) = P at hxk
        omega
      go_roundw
      case rel => exact ⟨j, x / 128, L ++ [x % 128 + 128], rfl, by omega, hP, by omega, by simp; omega, hE, HO1⟩
      case measure => simp [intOf]; omega
    · have hvk : vput k x = [x] := by
        rcases k with _ | j
        · rfl
        · unfold vput
          exact if_neg (by omega)
      rw [hvk] at HE
      have hm : x % 256 = x := by omega
      have hg : ¬ x ≥ 128 := hlt
      have hLL : L.length + 1 ≤ 140737488355328 := by omega
      go_wp2_with (first
        | (at_builtin; refine HO.out.byte rfl _ _ _ rfl rfl rfl hLL ?_; intro v1 w1 ho hg hat; have HO1 := Aside0.mk (ho.of_cast HE.out); clear ho hg hat))
      go_ret
      exact ⟨_, rfl, HO1.out.r, HO1.out.b⟩
end Go.Proofs.Ytlmcefhpnfoahaa.P
end

section
namespace Go.Proofs.Ytlmcefhpnfoahaa.P
open Go.RowKit Go.Proofs.YtlmcefhpnfoahaaW.PrintWords Go.Proofs.YtlmcefhpnfoahaaW.PrintLast Go.Proofs.YtlmcefhpnfoahaaW.PrintMore
set_option linter.unusedVariables false
set_option linter.unusedSimpArgs false

/-- The number that bytes begin with, k bytes more at most behind the first: it, how many bytes, the error. -/
def vg : Nat → List Int → Int × Int × Int
  | _, [] => (0, 0, 20)
  | 0, c :: _ => if c = 1 then (1, 1, 0) else (0, 0, 21)
  | k + 1, c :: r => if c < 128 then (if c = 0 ∧ k + 1 ≠ 9 then (0, 0, 21) else (c, 1, 0)) else if (vg k r).2.2 = 0 then (c % 128 + 128 * (vg k r).1, (vg k r).2.1 + 1, 0) else (0, 0, (vg k r).2.2)
def vget (l : List Int) : Int × Int × Int := vg 9 l
theorem vput_pos (k : Nat) (v : Int) : 0 < (vput k v).length := by
  cases k with
  | zero => simp [vput]
  | succ k => unfold vput; split <;> simp
theorem pow128 (k : Nat) : (0 : Int) < 128 ^ k := Int.pow_pos (by decide)
theorem vg_vput (r : List Int) : ∀ (k : Nat) (v : Int), 0 ≤ v → v < 2 * 128 ^ k → (k ≠ 9 → v ≠ 0) → k ≤ 9 → vg k (vput k v ++ r) = (v, ((vput k v).length : Int), 0) := by
  intro k
  induction k with
  | zero =>
    intro v h0 h1 h2 _
    have := h2 (by decide)
    obtain rfl : v = 1 := by simp at h1; omega
    simp [vput, vg]
  | succ k ih =>
    intro v h0 h1 h2 h9
    unfold vput
    by_cases hv : v ≥ 128
    · rw [if_pos hv, List.cons_append]
      unfold vg
      have hd : v / 128 < 2 * 128 ^ k := by
        rw [Int.pow_succ] at h1
        generalize (128 : Int) ^ k = P at *
        omega
      have e := ih (v / 128) (by omega) hd (by omega) (by omega)
      rw [if_neg (by omega), e]
      simp
      omega
    · rw [if_neg hv, List.cons_append, List.nil_append]
      unfold vg
      rw [if_pos (by omega)]
      by_cases h : v = 0 ∧ k + 1 ≠ 9
      · exact absurd h.1 (h2 h.2)
      · rw [if_neg h]
        rfl
theorem vg_err : ∀ (k : Nat) (l : List Int), (vg k l).2.2 ≠ 0 → (vg k l = (0, 0, 20) ∨ vg k l = (0, 0, 21)) := by
  intro k
  induction k with
  | zero =>
    intro l h
    cases l with
    | nil => left; rfl
    | cons c r =>
      unfold vg at h ⊢
      split
      · rename_i hc; rw [if_pos hc] at h; exact absurd rfl h
      · right; rfl
  | succ k ih =>
    intro l h
    cases l with
    | nil => left; rfl
    | cons c r =>
      unfold vg at h ⊢
      by_cases hc : c < 128
      · rw [if_pos hc] at h ⊢
        by_cases h0 : c = 0 ∧ k + 1 ≠ 9
        · rw [if_pos h0]; right; rfl
        · rw [if_neg h0] at h; exact absurd rfl h
      · rw [if_neg hc] at h ⊢
        by_cases he : (vg k r).2.2 = 0
        · rw [if_pos he] at h; exact absurd rfl h
        · rw [if_neg he]
          rcases ih r he with e | e <;> rw [e]
          · left; rfl
          · right; rfl
theorem vput_vg : ∀ (k : Nat) (l : List Int), (∀ x ∈ l, isByte x = true) → (vg k l).2.2 = 0 → k ≤ 9 →
    ∃ r, l = vput k (vg k l).1 ++ r ∧ (vg k l).2.1 = ((vput k (vg k l).1).length : Int) ∧ 0 ≤ (vg k l).1 ∧ (vg k l).1 < 2 * 128 ^ k ∧ (k ≠ 9 → (vg k l).1 ≠ 0) := by
  intro k
  induction k with
  | zero =>
    intro l hb h _
    cases l with
    | nil => simp [vg] at h
    | cons c r =>
      unfold vg at h ⊢
      by_cases hc : c = 1
      · subst hc
        exact ⟨r, by simp [vput], by simp [vput], by simp, by simp, by simp⟩
      · rw [if_neg hc] at h; simp at h
  | succ k ih =>
    intro l hb h h9
    cases l with
    | nil => simp [vg] at h
    | cons c r =>
      have hc0 : 0 ≤ c ∧ c ≤ 255 := by have := hb c (by simp); simpa [isByte] using this
      have hp := pow128 k
      unfold vg at h ⊢
      by_cases hc : c < 128
      · rw [if_pos hc] at h ⊢
        by_cases h0 : c = 0 ∧ k + 1 ≠ 9
        · rw [if_pos h0] at h; simp at h
        · rw [if_neg h0]
          refine ⟨r, ?_, ?_, hc0.1, ?_, ?_⟩
          · unfold vput; rw [if_neg (by simp; omega)]; rfl
          · unfold vput; rw [if_neg (by simp; omega)]; rfl
          · show c < _
            rw [Int.pow_succ]
            omega
          · intro hk e
            exact h0 ⟨e, hk⟩
      · rw [if_neg hc] at h ⊢
        by_cases he : (vg k r).2.2 = 0
        · rw [if_pos he] at h ⊢
          obtain ⟨r', g1, g2, g3, g4, g5⟩ := ih r (fun x hx => hb x (by simp [hx])) he (by omega)
          have g6 := g5 (by omega)
          generalize hV : (vg k r).1 = V at *
          generalize (vg k r).2.1 = n at *
          have e : vput (k + 1) (c % 128 + 128 * V) = c :: vput k V := by
            conv => lhs; unfold vput
            have e1 : (c % 128 + 128 * V) / 128 = V := by omega
            have e2 : (c % 128 + 128 * V) % 128 + 128 = c := by omega
            rw [if_pos (by omega), e1, e2]
          dsimp only
          rw [e]
          refine ⟨r', by rw [List.cons_append, ← g1], by rw [g2]; simp, by omega, ?_, by omega⟩
          rw [Int.pow_succ]
          omega
        · rw [if_neg he] at h
          exact absurd h he
theorem vg_short : ∀ (k : Nat) (v : Int) (m : Nat), m < (vput k v).length → vg k ((vput k v).take m) = (0, 0, 20) := by
  intro k
  induction k with
  | zero =>
    intro v m h
    obtain rfl : m = 0 := by simp [vput] at h; exact h
    rfl
  | succ k ih =>
    intro v m h
    unfold vput at h ⊢
    by_cases hv : v ≥ 128
    · rw [if_pos hv] at h ⊢
      cases m with
      | zero => rfl
      | succ m =>
        rw [List.take_succ_cons]
        unfold vg
        rw [if_neg (by omega), ih (v / 128) m (by simpa using h)]
        rfl
    · rw [if_neg hv] at h ⊢
      obtain rfl : m = 0 := by simp at h; exact h
      rfl
theorem vget_vput (v : Int) (r : List Int) (h0 : 0 ≤ v) (h1 : v ≤ 18446744073709551615) : vget (vput 9 v ++ r) = (v, ((vput 9 v).length : Int), 0) :=
  vg_vput r 9 v h0 (by omega) (by simp) (by decide)
theorem vput_vget (l : List Int) (hb : ∀ x ∈ l, isByte x = true) (h : (vget l).2.2 = 0) :
    ∃ r, l = vput 9 (vget l).1 ++ r ∧ (vget l).2.1 = ((vput 9 (vget l).1).length : Int) ∧ 0 ≤ (vget l).1 ∧ (vget l).1 ≤ 18446744073709551615 := by
  obtain ⟨r, h1, h2, h3, h4, _⟩ := vput_vg 9 l hb h (by decide)
  exact ⟨r, h1, h2, h3, by have : vg 9 l = vget l := rfl; rw [this] at h4; omega⟩
theorem vput_bytes : ∀ (k : Nat) (v : Int), 0 ≤ v → v < 2 * 128 ^ k → ∀ c ∈ vput k v, isByte c = true := by
  intro k
  induction k with
  | zero => intro v h0 h1 c hc; simp [vput] at hc h1; subst hc; simp [isByte]; omega
  | succ k ih =>
    intro v h0 h1 c hc
    unfold vput at hc
    rw [Int.pow_succ] at h1
    by_cases hv : v ≥ 128
    · rw [if_pos hv, List.mem_cons] at hc
      rcases hc with rfl | hc
      · simp [isByte]; omega
      · exact ih (v / 128) (by omega) (by generalize (128 : Int) ^ k = P at *; omega) c hc
    · rw [if_neg hv] at hc
      simp at hc
      subst hc
      simp [isByte]; omega
end Go.Proofs.Ytlmcefhpnfoahaa.P
end

section
namespace Go.Proofs.Ytlmcefhpnfoahaa.P
open Go.RowKit Go.Proofs.YtlmcefhpnfoahaaW.PrintWords Go.Proofs.YtlmcefhpnfoahaaW.PrintLast Go.Proofs.YtlmcefhpnfoahaaW.PrintMore
attribute [local go_sem] max2_int min2_int max_two min_two max_three min_three max_four min_four   -- for this text's walks alone
set_option linter.unusedVariables false
set_option linter.unusedSimpArgs false

/-! ### varint_Get: function 126 -/
mutual
def varint_Get.l0 : Nat → List Int → Int → Int → Option (Int × Int × Int)
  | 0, _, _, _ => none
  | k + 1, x0, x5, x8 => if x8 < 10 then (if x8 = (x0.length : Int) then (some (0, 0, 20)) else (if 0 ≤ x8 then (if x8 < (x0.length : Int) then (if x8 = 9 then (varint_Get.j1 k x0 x5 x8 (rd x0 x8) x8 (decide ((rd x0 x8) > 1))) else (varint_Get.j1 k x0 x5 x8 (rd x0 x8) x8 false)) else (none)) else (none))) else (some (0, 0, 21))
def varint_Get.j1 : Nat → List Int → Int → Int → Int → Int → Bool → Option (Int × Int × Int)
  | 0, _, _, _, _, _, _ => none
  | k + 1, x0, x5, x6, x7, x8, x24 => if x24 = true then (some (0, 0, 21)) else (if 0 ≤ (wrap64 (7 * x6)) then (if x7 < 128 then (if x7 = 0 then (if x6 > 0 then (some (0, 0, 21)) else (some (Go.bits .or .u64 x5 (shl .u64 (IntKind.u64.wrap (Go.bits .and .u8 x7 127)) (wrap64 (7 * x6))), wrap64 (x6 + 1), 0))) else (some (Go.bits .or .u64 x5 (shl .u64 (IntKind.u64.wrap (Go.bits .and .u8 x7 127)) (wrap64 (7 * x6))), wrap64 (x6 + 1), 0))) else (varint_Get.l0 k x0 (Go.bits .or .u64 x5 (shl .u64 (IntKind.u64.wrap (Go.bits .and .u8 x7 127)) (wrap64 (7 * x6)))) (wrap64 (x8 + 1)))) else (none))
end
def varint_Get.f (k : Nat) (l0 : List Int) : Option (Int × Int × Int) := varint_Get.l0 k l0 0 0
theorem varint_Get.mono_l : ∀ k, (∀ y0 y1 y2, LeO (varint_Get.l0 k y0 y1 y2) (varint_Get.l0 (k + 1) y0 y1 y2)) ∧ (∀ y0 y1 y2 y3 y4 y5, LeO (varint_Get.j1 k y0 y1 y2 y3 y4 y5) (varint_Get.j1 (k + 1) y0 y1 y2 y3 y4 y5))
  | 0 => ⟨fun _ _ _ r h => by simp [varint_Get.l0] at h, fun _ _ _ _ _ _ r h => by simp [varint_Get.j1] at h⟩
  | k + 1 => by
    obtain ⟨ih0, ih1⟩ := varint_Get.mono_l k
    refine ⟨?_, ?_⟩
    · intro y0 y1 y2
      unfold varint_Get.l0
      repeat' first
      | (with_reducible exact ih0 _ _ _)
      | (with_reducible exact ih1 _ _ _ _ _ _)
      | (with_reducible exact LeO.refl _)
      | (with_reducible exact LeO.none _)
      | (with_reducible refine LeO.ite ?_ ?_)
      | (with_reducible refine LeO.bind ?_ (fun _ => ?_))
      | exact ih0 _ _ _
      | exact ih1 _ _ _ _ _ _
      | exact LeO.none _
      | refine LeO.ite ?_ ?_
      | refine LeO.bind ?_ (fun _ => ?_)
    · intro y0 y1 y2 y3 y4 y5
      unfold varint_Get.j1
      repeat' first
      | (with_reducible exact ih0 _ _ _)
      | (with_reducible exact ih1 _ _ _ _ _ _)
      | (with_reducible exact LeO.refl _)
      | (with_reducible exact LeO.none _)
      | (with_reducible refine LeO.ite ?_ ?_)
      | (with_reducible refine LeO.bind ?_ (fun _ => ?_))
      | exact ih0 _ _ _
      | exact ih1 _ _ _ _ _ _
      | exact LeO.none _
      | refine LeO.ite ?_ ?_
      | refine LeO.bind ?_ (fun _ => ?_)
theorem varint_Get.mono : ∀ a0 k, LeO (varint_Get.f k a0) (varint_Get.f (k + 1) a0) := by
  intro a0 k
  obtain ⟨ih0, ih1⟩ := varint_Get.mono_l k
  unfold varint_Get.f
  repeat' first
      | (with_reducible exact ih0 _ _ _)
      | (with_reducible exact ih1 _ _ _ _ _ _)
      | (with_reducible exact LeO.refl _)
      | (with_reducible exact LeO.none _)
      | (with_reducible refine LeO.ite ?_ ?_)
      | (with_reducible refine LeO.bind ?_ (fun _ => ?_))
      | exact ih0 _ _ _
      | exact ih1 _ _ _ _ _ _
      | exact LeO.none _
      | refine LeO.ite ?_ ?_
      | refine LeO.bind ?_ (fun _ => ?_)
set_option maxHeartbeats 8000000 in
set_option maxRecDepth 100000 in
theorem varint_Get.calls (k : Nat) (A0 : Option Addr) (c0 : Nat) (l0 : List Int) (r1 : Int) (r2 : Int) (r3 : Int) (w : World) (hr0 : Kd.C (Kd.int .u8) w A0 l0.length l0) (hc0 : l0.length ≤ c0) (h : varint_Get.f k l0 = some (r1, r2, r3)) :
    Calls Try.prog 126 #[.slice A0 l0.length c0] w fun e w' => e = .returned (.tuple #[.int .u64 r1, .int .i64 r2, .int .i64 r3]) ∧ Drawn0 w w' := by
  have HR0 := Aside0.mk hr0
  have HC0 := Aside0.mk hc0
  clear hr0 hc0
  have H : (varint_Get.l0 k l0 0 0) = some (r1, r2, r3) := h
  clear h
  have H' := Aside0.mk H
  clear H
  go_enter Try.func126, Try.ntmps126
  go_wp2
  go_loopg [5, 8] k (fun kq v5 v8 w' => ∃ (x5_1 : Int) (x8_1 : Int), v5 = .int .u64 x5_1 ∧ v8 = .int .i64 x8_1 ∧ Aside0 (varint_Get.l0 kq l0 x5_1 x8_1 = some (r1, r2, r3)) ∧ Aside0 (kq ≤ k) ∧ Drawn0 w w')
  case atStart => exact ⟨(0), (0), (by first | rfl | (simp; done) | (simp [*]; done)), (by first | rfl | (simp; done) | (simp [*]; done)), H', ⟨Nat.le_refl _⟩, by repeat (first | exact Drawn0.refl _ | apply Drawn0.step)⟩
  case round =>
    clear H'
    try clear c1
    obtain ⟨x5_1, x8_1, rfl, rfl, HA, HK1, ⟨m1, rfl⟩⟩ := hrel
    cases gk with
    | zero => exact absurd HA.out (by simp [varint_Get.l0])
    | succ k1 =>
      have H := HA.out
      clear HA
      simp only [varint_Get.l0] at H
      by_cases c2 : x8_1 < 10
      · rw [if_pos c2] at H
        have c2b0 : decide (x8_1 < 10) = true := decide_eq_true c2
        clear c2
        by_cases c3 : x8_1 = (l0.length : Int)
        · rw [if_pos c3] at H
          have c3b0 : (x8_1 == (l0.length : Int)) = true := beq_iff_eq.mpr c3
          have c3b1 : (x8_1 != (l0.length : Int)) = false := bne_eq_false_iff_eq.mpr c3
          clear c3
          simp only [Option.some.injEq, Prod.mk.injEq] at H
          obtain ⟨rfl, rfl, rfl⟩ := H
          go_wp2
          go_ret3
          exact ⟨by first | rfl | (simp; done) | (simp [*]; done), by repeat (first | exact Drawn0.refl _ | apply Drawn0.step)⟩
        · rw [if_neg c3] at H
          have c3b0 : (x8_1 == (l0.length : Int)) = false := beq_eq_false_iff_ne.mpr c3
          have c3b1 : (x8_1 != (l0.length : Int)) = true := bne_iff_ne.mpr c3
          by_cases c4 : 0 ≤ x8_1
          · rw [if_pos c4] at H
            have c4b0 : decide (0 ≤ x8_1) = true := decide_eq_true c4
            clear c4
            by_cases c5 : x8_1 < (l0.length : Int)
            · rw [if_pos c5] at H
              have c5b0 : decide (x8_1 < (l0.length : Int)) = true := decide_eq_true c5
              clear c5
              have HC6 := Aside0.mk H
              clear H
              have p397 : 0 ≤ (x8_1 : Int) := of_decide_eq_true (by first | (with_reducible assumption) | assumption)
              have q397 : x8_1 < (l0.length : Int) := of_decide_eq_true (by first | (with_reducible assumption) | assumption)
              obtain ⟨ad397, e397, hx397_0⟩ := Kd.at_int HR0.out x8_1 p397 q397
              cases e397
              replace p397 := eq_true p397
              replace q397 := eq_true q397
              go_upto_region 8 with (fail)
              go_cut [24] (fun v24 wc => ∃ (kq : Nat) (x24_5 : Bool), v24 = .bool x24_5 ∧ Aside0 (varint_Get.j1 kq l0 x5_1 x8_1 (rd l0 x8_1) x8_1 x24_5 = some (r1, r2, r3)) ∧ Aside0 (kq ≤ k1) ∧ Drawn0 w wc)
              case first =>
                have H := HC6.out
                clear HC6
                by_cases c7 : x8_1 = 9
                · rw [if_pos c7] at H
                  have c7b0 : (x8_1 == 9) = true := beq_iff_eq.mpr c7
                  have c7b1 : (x8_1 != 9) = false := bne_eq_false_iff_eq.mpr c7
                  clear c7
                  (first | rw [c7b0] | (simp only [i64_w, i32_w]; rw [c7b0]) | skip)
                  have H' := Aside0.mk H
                  clear H
                  go_wp2
                  go_meet
                  case rel => exact ⟨_, (decide ((rd l0 x8_1) > 1)), (by first | rfl | (simp; done) | (simp [*]; done)), H', ⟨by have := HK1.out; first | omega | exact Nat.le_refl _⟩, by repeat (first | exact Drawn0.refl _ | apply Drawn0.step)⟩
                · rw [if_neg c7] at H
                  have c7b0 : (x8_1 == 9) = false := beq_eq_false_iff_ne.mpr c7
                  have c7b1 : (x8_1 != 9) = true := bne_iff_ne.mpr c7
                  (first | rw [c7b0] | (simp only [i64_w, i32_w]; rw [c7b0]) | skip)
                  have H' := Aside0.mk H
                  clear H
                  go_wp2
                  go_meet
                  case rel => exact ⟨_, (false), (by first | rfl | (simp; done) | (simp [*]; done)), H', ⟨by have := HK1.out; first | omega | exact Nat.le_refl _⟩, by repeat (first | exact Drawn0.refl _ | apply Drawn0.step)⟩
              case rest =>
                clear HC6
                try clear c1
                try clear c2
                try clear c2b0
                try clear p2
                try clear c3
                try clear c3b0
                try clear c3b1
                try clear p3
                try clear q3
                try clear hx3
                try clear c4
                try clear c4b0
                try clear c5
                try clear c5b0
                try clear c7
                try clear c7b0
                try clear c7b1
                try clear hx397_0
                try clear p397
                try clear q397
                obtain ⟨kq, x24_5, rfl, HA, HJ5, ⟨mc5, rfl⟩⟩ := hcut
                cases kq with
                | zero => exact absurd HA.out (by simp [varint_Get.j1])
                | succ kj5 =>
                  have H := HA.out
                  clear HA
                  simp only [varint_Get.j1] at H
                  by_cases c8 : x24_5 = true
                  · subst c8
                    have H1 : (some (0, 0, 21)) = some (r1, r2, r3) := by rw [if_pos rfl] at H; exact H
                    clear H
                    have H := H1
                    clear H1
                    simp only [Option.some.injEq, Prod.mk.injEq] at H
                    obtain ⟨rfl, rfl, rfl⟩ := H
                    go_wp2
                    go_ret3
                    exact ⟨by first | rfl | (simp; done) | (simp [*]; done), by repeat (first | exact Drawn0.refl _ | apply Drawn0.step)⟩
                  · replace c8 := Bool.eq_false_iff.mpr c8
                    subst c8
                    have H1 : (if 0 ≤ (wrap64 (7 * x8_1)) then (if (rd l0 x8_1) < 128 then (if (rd l0 x8_1) = 0 then (if x8_1 > 0 then (some (0, 0, 21)) else (some (Go.bits .or .u64 x5_1 (shl .u64 (IntKind.u64.wrap (Go.bits .and .u8 (rd l0 x8_1) 127)) (wrap64 (7 * x8_1))), wrap64 (x8_1 + 1), 0))) else (some (Go.bits .or .u64 x5_1 (shl .u64 (IntKind.u64.wrap (Go.bits .and .u8 (rd l0 x8_1) 127)) (wrap64 (7 * x8_1))), wrap64 (x8_1 + 1), 0))) else (varint_Get.l0 kj5 l0 (Go.bits .or .u64 x5_1 (shl .u64 (IntKind.u64.wrap (Go.bits .and .u8 (rd l0 x8_1) 127)) (wrap64 (7 * x8_1)))) (wrap64 (x8_1 + 1)))) else (none)) = some (r1, r2, r3) := by rw [if_neg (show ¬ (false = true) by decide)] at H; exact H
                    clear H
                    have H := H1
                    clear H1
                    obtain ⟨ji9, hji9⟩ : ∃ j_ : Int, (wrap64 (7 * x8_1)) = j_ := ⟨_, rfl⟩
                    replace H : (if 0 ≤ (ji9) then (if (rd l0 x8_1) < 128 then (if (rd l0 x8_1) = 0 then (if x8_1 > 0 then (some (0, 0, 21)) else (some (Go.bits .or .u64 x5_1 (shl .u64 (IntKind.u64.wrap (Go.bits .and .u8 (rd l0 x8_1) 127)) (ji9)), wrap64 (x8_1 + 1), 0))) else (some (Go.bits .or .u64 x5_1 (shl .u64 (IntKind.u64.wrap (Go.bits .and .u8 (rd l0 x8_1) 127)) (ji9)), wrap64 (x8_1 + 1), 0))) else (varint_Get.l0 kj5 l0 (Go.bits .or .u64 x5_1 (shl .u64 (IntKind.u64.wrap (Go.bits .and .u8 (rd l0 x8_1) 127)) (ji9))) (wrap64 (x8_1 + 1)))) else (none)) = some (r1, r2, r3) := by first | (rw [hji9] at H; exact H) | (simp only [hji9] at H ⊢; exact H)
                    have hji9w : (IntKind.i64.wrap (7 * x8_1)) = ji9 := (i64_w _).trans hji9
                    by_cases c10 : 0 ≤ (ji9)
                    · rw [if_pos c10] at H
                      have c10b0 := eq_true c10
                      have c10b1 : decide (0 ≤ (ji9)) = true := decide_eq_true c10
                      clear c10
                      obtain ⟨ji11, hji11⟩ : ∃ j_ : Int, (shl .u64 (IntKind.u64.wrap (Go.bits .and .u8 (rd l0 x8_1) 127)) (ji9)) = j_ := ⟨_, rfl⟩
                      replace H : (if (rd l0 x8_1) < 128 then (if (rd l0 x8_1) = 0 then (if x8_1 > 0 then (some (0, 0, 21)) else (some (Go.bits .or .u64 x5_1 (ji11), wrap64 (x8_1 + 1), 0))) else (some (Go.bits .or .u64 x5_1 (ji11), wrap64 (x8_1 + 1), 0))) else (varint_Get.l0 kj5 l0 (Go.bits .or .u64 x5_1 (ji11)) (wrap64 (x8_1 + 1)))) = some (r1, r2, r3) := by first | (rw [hji11] at H; exact H) | (simp only [hji11] at H ⊢; exact H)
                      have hji11_ : (IntKind.u64.wrap ((IntKind.u64.wrap (Go.bits .and .u8 (rd l0 x8_1) 127)) * 2 ^ min (ji9).toNat 64)) = ji11 := hji11
                      have hji11z : (ji9) ≤ 64 → (IntKind.u64.wrap ((IntKind.u64.wrap (Go.bits .and .u8 (rd l0 x8_1) 127)) * 2 ^ (ji9).toNat)) = ji11 := shl_small hji11
                      by_cases c12 : (rd l0 x8_1) < 128
                      · rw [if_pos c12] at H
                        have c12b0 : decide ((rd l0 x8_1) < 128) = true := decide_eq_true c12
                        clear c12
                        by_cases c13 : (rd l0 x8_1) = 0
                        · rw [if_pos c13] at H
                          have c13b0 : ((rd l0 x8_1) == 0) = true := beq_iff_eq.mpr c13
                          have c13b1 : ((rd l0 x8_1) != 0) = false := bne_eq_false_iff_eq.mpr c13
                          clear c13
                          by_cases c14 : x8_1 > 0
                          · rw [if_pos c14] at H
                            have c14b0 : decide (0 < x8_1) = true := decide_eq_true c14
                            clear c14
                            simp only [Option.some.injEq, Prod.mk.injEq] at H
                            obtain ⟨rfl, rfl, rfl⟩ := H
                            go_wp2
                            go_ret3
                            exact ⟨by first | rfl | (simp; done) | (simp only [← hji9, ← hji11] <;> (first | rfl | simp)) | (simp [*]; done), by repeat (first | exact Drawn0.refl _ | apply Drawn0.step)⟩
                          · rw [if_neg c14] at H
                            have c14b0 : decide (0 < x8_1) = false := decide_eq_false c14
                            clear c14
                            simp only [Option.some.injEq, Prod.mk.injEq] at H
                            obtain ⟨rfl, rfl, rfl⟩ := H
                            go_wp2
                            go_ret3
                            exact ⟨by first | rfl | (simp; done) | (simp only [← hji9, ← hji11] <;> (first | rfl | simp)) | (simp [*]; done), by repeat (first | exact Drawn0.refl _ | apply Drawn0.step)⟩
                        · rw [if_neg c13] at H
                          have c13b0 : ((rd l0 x8_1) == 0) = false := beq_eq_false_iff_ne.mpr c13
                          have c13b1 : ((rd l0 x8_1) != 0) = true := bne_iff_ne.mpr c13
                          simp only [Option.some.injEq, Prod.mk.injEq] at H
                          obtain ⟨rfl, rfl, rfl⟩ := H
                          go_wp2
                          go_ret3
                          exact ⟨by first | rfl | (simp; done) | (simp only [← hji9, ← hji11] <;> (first | rfl | simp)) | (simp [*]; done), by repeat (first | exact Drawn0.refl _ | apply Drawn0.step)⟩
                      · rw [if_neg c12] at H
                        have c12b0 : decide ((rd l0 x8_1) < 128) = false := decide_eq_false c12
                        clear c12
                        have H' := Aside0.mk H
                        clear H
                        go_wp2
                        go_roundg kj5
                        case measure => have := HK1.out; have := HJ5.out; omega
                        case rel => exact ⟨(Go.bits .or .u64 x5_1 (ji11)), (wrap64 (x8_1 + 1)), (by first | rfl | (simp; done) | (simp only [← hji11] <;> (first | rfl | simp)) | (simp [*]; done)), (by first | rfl | (simp; done) | (simp [*]; done)), H', ⟨by have := HK1.out; have := HJ5.out; omega⟩, by repeat (first | exact Drawn0.refl _ | apply Drawn0.step)⟩
                    · rw [if_neg c10] at H
                      exact absurd H (by simp)
            · rw [if_neg c5] at H
              exact absurd H (by simp)
          · rw [if_neg c4] at H
            exact absurd H (by simp)
      · rw [if_neg c2] at H
        have c2b0 : decide (x8_1 < 10) = false := decide_eq_false c2
        clear c2
        simp only [Option.some.injEq, Prod.mk.injEq] at H
        obtain ⟨rfl, rfl, rfl⟩ := H
        go_wp2
        go_ret3
        exact ⟨by first | rfl | (simp; done) | (simp [*]; done), by repeat (first | exact Drawn0.refl _ | apply Drawn0.step)⟩

end Go.Proofs.Ytlmcefhpnfoahaa.P
end

section
namespace Go.Proofs.Ytlmcefhpnfoahaa.P
open Go.RowKit Go.Proofs.YtlmcefhpnfoahaaW.PrintWords Go.Proofs.YtlmcefhpnfoahaaW.PrintLast Go.Proofs.YtlmcefhpnfoahaaW.PrintMore
attribute [local go_sem] max2_int min2_int max_two min_two max_three min_three max_four min_four   -- for this text's walks alone
set_option linter.unusedVariables false
set_option linter.unusedSimpArgs false

/-! ### varint_Zag: function 127 -/
def varint_Zag.f (a0 : Int) : Option (Int) := some (Go.bits .xor .i64 (wrap64 (a0 / 2)) (wrap64 (-(wrap64 (Go.bits .and .u64 a0 1)))))
set_option maxHeartbeats 8000000 in
set_option maxRecDepth 100000 in
theorem varint_Zag.calls (a0 : Int) (r : Int) (w : World) (h : varint_Zag.f a0 = some r) :
    Calls Try.prog 127 #[.int .u64 a0] w fun e w' => e = .returned (.int .i64 r) ∧ Drawn0 w w' := by
  have H : (some (Go.bits .xor .i64 (wrap64 (a0 / 2)) (wrap64 (-(wrap64 (Go.bits .and .u64 a0 1)))))) = some r := h
  clear h
  obtain rfl := Option.some.inj H
  go_enter Try.func127, Try.ntmps127
  go_wp2
  go_ret
  exact ⟨by first | rfl | (simp; done) | (simp [*]; done), by repeat (first | exact Drawn0.refl _ | apply Drawn0.step)⟩

end Go.Proofs.Ytlmcefhpnfoahaa.P
end

section
namespace Go.Proofs.Ytlmcefhpnfoahaa.P
open Go.RowKit Go.Proofs.YtlmcefhpnfoahaaW.PrintWords Go.Proofs.YtlmcefhpnfoahaaW.PrintLast Go.Proofs.YtlmcefhpnfoahaaW.PrintMore
set_option linter.unusedVariables false
set_option linter.unusedSimpArgs false

/-- What a way's get answers: a value, how many bytes, the error. -/
def GetPost (w : World) (r : S39 × Int × Int) (e : Ending) (w' : World) : Prop :=
  e = .returned (.tuple #[.agg #[.int .u8 r.1.f0, .int .i64 r.1.f1, .string r.1.f2], .int .i64 r.2.1, .int .i64 r.2.2]) ∧ Below w.heap.size w w'
def getBool (l : List Int) : S39 × Int × Int := if l.length = 0 then (z39, 0, 20) else if rd l 0 > 1 then (z39, 0, 21) else (⟨1, rd l 0, ⟨#[]⟩⟩, 1, 0)
def getInt (g : Int × Int × Int) (z : Int) : S39 × Int × Int := if g.2.2 ≠ 0 then (z39, 0, g.2.2) else (⟨2, z, ⟨#[]⟩⟩, g.2.1, 0)
set_option maxHeartbeats 800000 in
theorem way_getBool (A : Option Addr) (n c : Nat) (l : List Int) (w : World) (hr : Kd.C (Kd.int .u8) w A n l) (hc : n ≤ c) (hb : ∀ x ∈ l, isByte x = true) :
    Calls Try.prog 122 #[.slice A n c] w (GetPost w (getBool l)) := by
  have HR := Aside0.mk hr
  have hm := Kd.C_max hr
  have HL := Aside0.mk (Kd.C_len hr)
  have HB := Aside0.mk hb
  clear hr hb
  by_cases h0 : n = 0
  · have hz : ((n : Int) == 0) = true := by simp [h0]
    have Hf : Aside0 (getBool l = (z39, 0, 20)) := ⟨by unfold getBool; rw [if_pos (by rw [HL.out]; exact h0)]⟩
    go_enter Try.func122, Try.ntmps122
    go_wp2
    refine bodyPost_ret (v := .tuple #[.agg #[.int .u8 0, .int .i64 0, .string ⟨#[]⟩], .int .i64 0, .int .i64 20]) (by simp [results, Try.results122, go_sem]) rfl ?_
    rw [Hf.out]
    exact ⟨rfl, by repeat (first | exact Below.refl _ _ | apply below_alloc)⟩
  · have hz : ((n : Int) == 0) = false := by simp; omega
    obtain ⟨ad, e, hx⟩ := C_rd HR.out 0 (by omega)
    cases e
    rw [Addr.add_zero'] at hx
    have hx2 := cell_new hx
    have hp : 0 < n := by omega
    have hp' : (0 : Int) < (n : Int) := by omega
    obtain ⟨hx1, hx2'⟩ := rd_isByte HB.out 0 (by have := HL.out; omega)
    have e0 : rd l ((0 : Nat) : Int) = rd l 0 := rfl
    rw [e0] at hx1 hx2' hx hx2
    clear e0
    by_cases h1 : rd l 0 > 1
    · have Hf : Aside0 (getBool l = (z39, 0, 21)) := ⟨by unfold getBool; rw [if_neg (by rw [HL.out]; exact h0), if_pos h1]⟩
      have t1 : 1 < rd l 0 := h1
      clear h0 h1
      go_enter Try.func122, Try.ntmps122
      go_wp2
      refine bodyPost_ret (v := .tuple #[.agg #[.int .u8 0, .int .i64 0, .string ⟨#[]⟩], .int .i64 0, .int .i64 21]) (by simp [results, Try.results122, go_sem]) rfl ?_
      rw [Hf.out]
      exact ⟨rfl, by repeat (first | exact Below.refl _ _ | apply below_alloc)⟩
    · have Hf : Aside0 (getBool l = (⟨1, rd l 0, ⟨#[]⟩⟩, 1, 0)) := ⟨by unfold getBool; rw [if_neg (by rw [HL.out]; exact h0), if_neg h1]⟩
      have t1 : ¬ 1 < rd l 0 := h1
      have hw : wrap64 (rd l 0) = rd l 0 := by unfold wrap64; omega
      clear h0 h1
      go_enter Try.func122, Try.ntmps122
      go_wp2
      refine bodyPost_ret (v := .tuple #[.agg #[.int .u8 1, .int .i64 (rd l 0), .string ⟨#[]⟩], .int .i64 1, .int .i64 0]) (by simp [results, Try.results122, go_sem]) rfl ?_
      rw [Hf.out]
      exact ⟨rfl, by repeat (first | exact Below.refl _ _ | apply below_alloc | apply below_drew1)⟩
set_option maxHeartbeats 800000 in
theorem way_getInt (A : Option Addr) (c : Nat) (l : List Int) (w : World) (hr : Kd.C (Kd.int .u8) w A l.length l) (hc : l.length ≤ c) (k : Nat) (u j e z : Int) (hg : varint_Get.f k l = some (u, j, e)) (hz : varint_Zag.f u = some z) :
    Calls Try.prog 125 #[.slice A l.length c] w (GetPost w (getInt (u, j, e) z)) := by
  have HR := Aside0.mk (Kd.C_alloc hr (.cells #[.int .u8 0, .int .i64 0, .string ⟨#[]⟩] 39))
  have HG := Aside0.mk hg
  have HZ := Aside0.mk hz
  have BX := Aside0.mk (Box.made (Own.start (Kd.int .u8) 5 w) #[.int .u8 0, .int .i64 0, .string ⟨#[]⟩] 39)
  have HW := Aside0.mk (below_alloc (Below.refl w.heap.size w) (.cells #[.int .u8 0, .int .i64 0, .string ⟨#[]⟩] 39))
  clear hr hg hz
  by_cases he : e = 0
  · subst he
    have Hf : Aside0 (getInt (u, j, 0) z = (⟨2, z, ⟨#[]⟩⟩, j, 0)) := ⟨rfl⟩
    go_enter Try.func125, Try.ntmps125
    go_wp2_with (first
      | (go_at_call 126; refine (varint_Get.calls k A c l u j _ _ HR.out hc HG.out).mono ?_; rintro e w1 ⟨rfl, ⟨nd, rfl⟩⟩)
      | (go_at_call 127; refine (varint_Zag.calls u z _ HZ.out).mono ?_; rintro e w2 ⟨rfl, ⟨nd2, rfl⟩⟩))
    refine bodyPost_ret (results_ctt rfl _ _ w.heap.size 39 #[.int .u8 2, .int .i64 z, .string ⟨#[]⟩] (0, 0) _ rfl (BX.out.drewN _).put3 Try.underlying39 rfl (by kernel_rfl)) rfl ?_
    rw [Hf.out]
    exact ⟨rfl, below3 (pw_below_drewN HW.out _) (Nat.le_refl _) _ _ _⟩
  · have Hf : Aside0 (getInt (u, j, e) z = (z39, 0, e)) := ⟨by unfold getInt; exact if_pos he⟩
    have q0 : (e == 0) = false := beq_eq_false_iff_ne.mpr he
    have q1 : (e != 0) = true := by simp [bne, q0]
    go_enter Try.func125, Try.ntmps125
    go_wp2_with (first
      | (go_at_call 126; refine (varint_Get.calls k A c l u j _ _ HR.out hc HG.out).mono ?_; rintro e w1 ⟨rfl, ⟨nd, rfl⟩⟩))
    refine bodyPost_ret (results_ctt rfl _ _ w.heap.size 39 #[.int .u8 0, .int .i64 0, .string ⟨#[]⟩] (0, 0) _ rfl (BX.out.drewN _).put3 Try.underlying39 rfl (by kernel_rfl)) rfl ?_
    rw [Hf.out]
    exact ⟨rfl, below3 (pw_below_drewN HW.out _) (Nat.le_refl _) _ _ _⟩
/-- 'b[i:j]': a part of b. -/
theorem cut_both (A : Option Addr) (n c : Nat) (l : List Int) (i j : Int) (hn : l.length = n) (h0 : 0 ≤ i) (h1 : i ≤ j) (h2 : j ≤ n) (hc : n ≤ c) :
    ∃ (A' : Option Addr) (c' : Nat), (∀ W : World, (Instr.slice 22 (.slice A n c) (some (.int .i64 i)) (some (.int .i64 j)) none).run Try.prog W = .ok (.slice A' (j.toNat - i.toNat) c') W) ∧ j.toNat - i.toNat ≤ c' ∧
      (∀ W : World, Kd.C (Kd.int .u8) W A n l → Kd.C (Kd.int .u8) W A' (j.toNat - i.toNat) ((l.take j.toNat).drop i.toNat)) := by
  subst hn
  obtain ⟨i0, hi, hzz⟩ := Option.map_eq_some_iff.1 info5
  simp only [Prod.mk.injEq] at hzz
  have q := Go.Proofs.YtlmcefhpnfoahaaW.PrintWords.cut_mid (P := Try.prog) 22 5 .i64 .i64 Try.underlying22 hi 1 hzz.2.1 A l.length c i j h0 h1 h2 hc
  refine ⟨_, _, q, by omega, fun W hC => ?_⟩
  have t1 := Kd.C_take hC (m := j.toNat) (by omega)
  have hl : (l.take j.toNat).length = j.toNat := by rw [List.length_take]; omega
  have t2 := Kd.C_drop t1 (m := i.toNat) (c := c) (by omega) (by omega)
  have hl2 : ((l.take j.toNat).drop i.toNat).length = j.toNat - i.toNat := by rw [List.length_drop, hl]
  rw [hl2] at t2
  exact t2
def getText (l : List Int) (g : Int × Int × Int) : S39 × Int × Int :=
  if g.2.2 ≠ 0 then (z39, 0, g.2.2) else if g.1 > (l.length : Int) - g.2.1 then (z39, 0, 20) else (⟨3, 0, strOfNums ((l.take (g.2.1 + g.1).toNat).drop g.2.1.toNat)⟩, g.2.1 + g.1, 0)
set_option maxHeartbeats 1600000 in
theorem way_getText (A : Option Addr) (c : Nat) (l : List Int) (w : World) (hr : Kd.C (Kd.int .u8) w A l.length l) (hc : l.length ≤ c) (hl : l.length ≤ 1000000) (k : Nat) (u j e : Int) (hg : varint_Get.f k l = some (u, j, e)) (hu : 0 ≤ u) (hu1 : u ≤ 18446744073709551615) (hj : 0 ≤ j) (hj1 : j ≤ l.length) :
    Calls Try.prog 129 #[.slice A l.length c] w (GetPost w (getText l (u, j, e))) := by
  have HR0 := Aside0.mk hr
  have HR := Aside0.mk (Kd.C_alloc hr (.cells #[.int .u8 0, .int .i64 0, .string ⟨#[]⟩] 39))
  have HG := Aside0.mk hg
  have BX := Aside0.mk (Box.made (Own.start (Kd.int .u8) 5 w) #[.int .u8 0, .int .i64 0, .string ⟨#[]⟩] 39)
  have HW := Aside0.mk (below_alloc (Below.refl w.heap.size w) (.cells #[.int .u8 0, .int .i64 0, .string ⟨#[]⟩] 39))
  clear hr hg
  by_cases he : e = 0
  · subst he
    have e1 : wrap64 ((l.length : Int) - j) = (l.length : Int) - j := by unfold wrap64; omega
    have e2 : IntKind.i64.wrap ((l.length : Int) - j) = (l.length : Int) - j := IntWalk.i64_in _ (by omega)
    have e3 : IntKind.u64.wrap ((l.length : Int) - j) = (l.length : Int) - j := by show ((l.length : Int) - j) % 18446744073709551616 = _; omega
    by_cases hgt : u > (l.length : Int) - j
    · have Hf : Aside0 (getText l (u, j, 0) = (z39, 0, 20)) := ⟨by unfold getText; rw [if_neg (by simp), if_pos hgt]⟩
      have t1 : (l.length : Int) - j < u := hgt
      go_enter Try.func129, Try.ntmps129
      go_wp2_with (first
        | (go_at_call 126; refine (varint_Get.calls k A c l u j _ _ HR.out hc HG.out).mono ?_; rintro e w1 ⟨rfl, ⟨nd, rfl⟩⟩))
      refine bodyPost_ret (results_ctt rfl _ _ w.heap.size 39 #[.int .u8 0, .int .i64 0, .string ⟨#[]⟩] (0, 0) _ rfl (BX.out.drewN _).put3 Try.underlying39 rfl (by kernel_rfl)) rfl ?_
      rw [Hf.out]
      exact ⟨rfl, below3 (pw_below_drewN HW.out _) (Nat.le_refl _) _ _ _⟩
    · have Hf : Aside0 (getText l (u, j, 0) = (⟨3, 0, strOfNums ((l.take (j + u).toNat).drop j.toNat)⟩, j + u, 0)) := ⟨by unfold getText; rw [if_neg (by simp), if_neg hgt]⟩
      have t1 : ¬ (l.length : Int) - j < u := hgt
      have e4 : IntKind.i64.wrap u = u := IntWalk.i64_in _ (by omega)
      have e5 : IntKind.i64.wrap (j + u) = j + u := IntWalk.i64_in _ (by omega)
      have e6 : wrap64 (j + u) = j + u := by unfold wrap64; omega
      have e7 : wrap64 u = u := by unfold wrap64; omega
      obtain ⟨A', c', k1, k2, k3⟩ := cut_both A l.length c l j (j + u) rfl hj (by omega) (by omega) hc
      have hl3 : ((l.take (j + u).toNat).drop j.toNat).length = (j + u).toNat - j.toNat := by rw [List.length_drop, List.length_take]; omega
      obtain ⟨m, hm⟩ : ∃ m, m = (j + u).toNat - j.toNat := ⟨_, rfl⟩
      have K3 := Aside0.mk k3
      rw [← hm] at k1 hl3
      have kst : ∀ q : Nat, (convert 22 9 (.slice A' m c')).run Try.prog ((w.alloc (.cells #[.int .u8 0, .int .i64 0, .string ⟨#[]⟩] 39)).drewN q) = .ok (.string (strOfNums ((l.take (j + u).toNat).drop j.toNat))) ((w.alloc (.cells #[.int .u8 0, .int .i64 0, .string ⟨#[]⟩] 39)).drewN q) := fun q => by
        have h3 := K3.out _ (Kd.C_drewN HR.out q)
        rw [← hm, ← hl3] at h3
        rw [← hl3]
        exact Kd.C_string Try.underlying22 Try.underlying5 Try.underlying9 h3
      obtain ⟨S, hS⟩ : ∃ S, S = strOfNums ((l.take (j + u).toNat).drop j.toNat) := ⟨_, rfl⟩
      rw [← hS] at Hf kst
      clear k2 k3 hl3 hm hS e1
      go_enter Try.func129, Try.ntmps129
      go_wp2_with (first
        | (go_at_call 126; refine (varint_Get.calls k A c l u j _ _ HR.out hc HG.out).mono ?_; rintro e w1 ⟨rfl, ⟨nd, rfl⟩⟩))
      refine bodyPost_ret (results_ctt rfl _ _ w.heap.size 39 #[.int .u8 3, .int .i64 0, .string S] (0, 0) _ rfl (BX.out.drewN _).put3 Try.underlying39 rfl (by kernel_rfl)) rfl ?_
      rw [Hf.out]
      exact ⟨rfl, below3 (pw_below_drewN HW.out _) (Nat.le_refl _) _ _ _⟩
  · have Hf : Aside0 (getText l (u, j, e) = (z39, 0, e)) := ⟨by unfold getText; exact if_pos he⟩
    have q0 : (e == 0) = false := beq_eq_false_iff_ne.mpr he
    have q1 : (e != 0) = true := by simp [bne, q0]
    go_enter Try.func129, Try.ntmps129
    go_wp2_with (first
      | (go_at_call 126; refine (varint_Get.calls k A c l u j _ _ HR.out hc HG.out).mono ?_; rintro e w1 ⟨rfl, ⟨nd, rfl⟩⟩))
    refine bodyPost_ret (results_ctt rfl _ _ w.heap.size 39 #[.int .u8 0, .int .i64 0, .string ⟨#[]⟩] (0, 0) _ rfl (BX.out.drewN _).put3 Try.underlying39 rfl (by kernel_rfl)) rfl ?_
    rw [Hf.out]
    exact ⟨rfl, below3 (pw_below_drewN HW.out _) (Nat.le_refl _) _ _ _⟩
end Go.Proofs.Ytlmcefhpnfoahaa.P
end

section
namespace Go.Proofs.Ytlmcefhpnfoahaa.P
open Go.RowKit Go.Proofs.YtlmcefhpnfoahaaW.PrintWords Go.Proofs.YtlmcefhpnfoahaaW.PrintLast Go.Proofs.YtlmcefhpnfoahaaW.PrintMore
attribute [local go_sem] max2_int min2_int max_two min_two max_three min_three max_four min_four   -- for this text's walks alone
set_option linter.unusedVariables false
set_option linter.unusedSimpArgs false

/-! ### varint_Zig: function 124 -/
def varint_Zig.f (a0 : Int) : Option (Int) := some (Go.bits .xor .u64 (IntKind.u64.wrap ((IntKind.u64.wrap (a0)) * 2)) (IntKind.u64.wrap (a0 / 9223372036854775808)))
set_option maxHeartbeats 8000000 in
set_option maxRecDepth 100000 in
theorem varint_Zig.calls (a0 : Int) (r : Int) (w : World) (h : varint_Zig.f a0 = some r) :
    Calls Try.prog 124 #[.int .i64 a0] w fun e w' => e = .returned (.int .u64 r) ∧ Drawn0 w w' := by
  have H : (some (Go.bits .xor .u64 (IntKind.u64.wrap ((IntKind.u64.wrap (a0)) * 2)) (IntKind.u64.wrap (a0 / 9223372036854775808)))) = some r := h
  clear h
  obtain rfl := Option.some.inj H
  go_enter Try.func124, Try.ntmps124
  go_wp2
  go_ret
  exact ⟨by first | rfl | (simp; done) | (simp [*]; done), by repeat (first | exact Drawn0.refl _ | apply Drawn0.step)⟩

end Go.Proofs.Ytlmcefhpnfoahaa.P
end

section
namespace Go.Proofs.Ytlmcefhpnfoahaa.P
open Go.RowKit Go.Proofs.YtlmcefhpnfoahaaW.PrintWords Go.Proofs.YtlmcefhpnfoahaaW.PrintLast Go.Proofs.YtlmcefhpnfoahaaW.PrintMore
set_option linter.unusedVariables false
set_option linter.unusedSimpArgs false

/-- What a way's put leaves: the row longer, all other blocks as they were. -/
def PutPost (B : Nat) (w0 W : World) (v : Value) (L : List Int) (e : Ending) (W' : World) : Prop :=
  ∃ v', e = .returned v' ∧ Own (Kd.int .u8) 5 B w0 W' v' L ∧ ∀ g o, Blk W g o v → Blk W' g o v'
set_option maxRecDepth 100000 in
theorem way_bool {B : Nat} {w0 W : World} {v : Value} {L : List Int} (hO : Own (Kd.int .u8) 5 B w0 W v L) (hl : L.length + 1 ≤ 140737488355328) (x : S39) :
    Calls Try.prog 121 #[v, .agg #[.int .u8 x.f0, .int .i64 x.f1, .string x.f2]] W (PutPost B w0 W v (L ++ [x.f1 % 256])) := by
  have HO := Aside0.mk hO
  have BX := Aside0.mk (Box.made hO #[.int .u8 x.f0, .int .i64 x.f1, .string x.f2] 39)
  have q1 := BX.out.cell 1 rfl
  have HO2 := Aside0.mk (hO.alloc (.cells #[.int .u8 x.f0, .int .i64 x.f1, .string x.f2] 39))
  have hsz : (Value.slice (some ⟨W.heap.size + 1, 0, none⟩) 1 1) = .slice (some ⟨(W.alloc (.cells #[.int .u8 x.f0, .int .i64 x.f1, .string x.f2] 39)).heap.size, 0, none⟩) 1 1 := by simp
  have HSZ := Aside0.mk hsz
  clear hO hsz
  go_enter Try.func121, Try.ntmps121
  go_wp2_with (first
    | (at_builtin; refine HO2.out.byte rfl _ _ _ rfl rfl HSZ.out hl ?_; intro v1 w1 ho hg hat; have HO1 := Aside0.mk ho; have HF : Aside0 (∀ g o, Blk W g o v → Blk w1 g o v1) := ⟨fun g o hb => ((hb.alloc _).alloc _).app hg hat⟩; clear ho hg hat))
  go_ret
  exact ⟨_, rfl, HO1.out, HF.out⟩
/-- A row that a call has made is apart from what was there. -/
theorem Blk.fresh {W W' : World} {g : Nat} {o : Obj} {v v1 : Value} {L : List Int} (h : Blk W g o v) (hb : Below W.heap.size W W') (hr : Kd.R (Kd.int .u8) 5 W' W.heap.size (fun _ => True) v1 L) : Blk W' g o v1 :=
  ⟨(h.step hb).h, fun e => by have := Kd.R_base hr _ e; have := h.lt; omega⟩
set_option maxRecDepth 100000 in
theorem way_int {B : Nat} {w0 W : World} {v : Value} {L : List Int} (hO : Own (Kd.int .u8) 5 B w0 W v L) (hl : L.length ≤ 70368744177664) (x : S39) (z : Int) (hz : varint_Zig.f x.f1 = some z) (h0 : 0 ≤ z) (h1 : z ≤ 18446744073709551615) :
    Calls Try.prog 123 #[v, .agg #[.int .u8 x.f0, .int .i64 x.f1, .string x.f2]] W (PutPost B w0 W v (L ++ vput 9 z)) := by
  have HO := Aside0.mk (hO.alloc (.cells #[.int .u8 x.f0, .int .i64 x.f1, .string x.f2] 39))
  have BX := Aside0.mk (Box.made hO #[.int .u8 x.f0, .int .i64 x.f1, .string x.f2] 39)
  have q1 := BX.out.cell 1 rfl
  have HS := Aside0.mk (And.intro hO.b hO.s)
  obtain ⟨A, n, c, e, hn, hc, hC⟩ := hO.sl'
  subst e
  obtain rfl : n = L.length := hn.out
  have HC := Aside0.mk (Kd.C_alloc hC.out (.cells #[.int .u8 x.f0, .int .i64 x.f1, .string x.f2] 39))
  have HZ := Aside0.mk hz
  have HP := Aside0.mk (show varint_Put.f L z = some (L ++ vput 9 z) by unfold varint_Put.f; exact if_pos ⟨hl, h0, h1⟩)
  have hb1 := Aside0.mk (show Below W.heap.size W (W.alloc (.cells #[.int .u8 x.f0, .int .i64 x.f1, .string x.f2] 39)) from below_alloc (Below.refl _ _) _)
  have hs1 := Aside0.mk (show W.heap.size ≤ (W.alloc (.cells #[.int .u8 x.f0, .int .i64 x.f1, .string x.f2] 39)).heap.size by simp)
  clear hO hn hC hz
  go_enter Try.func123, Try.ntmps123
  go_wp2_with (first
    | (go_at_call 124; refine (varint_Zig.calls _ z _ HZ.out).mono ?_; rintro e w1 ⟨rfl, hk⟩; have hb2 := Aside0.mk (below_then hb1.out hs1.out hk.below); have hs2 := Aside0.mk (Nat.le_trans hs1.out hk.below.size); have HC2 := Aside0.mk (Kd.C_below HC.out hk.below); clear hk)
    | (go_at_call 80; refine (varint_Put.calls A c L z _ _ HC2.out hc HP.out).mono ?_; rintro e w2 ⟨v2, rfl, hr, hd⟩; have HX := Aside0.mk (Own.made (below_then HS.out.1 HS.out.2 hb2.out) (Nat.le_trans HS.out.2 hs2.out) hr hd); have HF : Aside0 (∀ g o, Blk W g o (.slice A L.length c) → Blk w2 g o v2) := ⟨fun g o hb => hb.fresh (below_then hb2.out hs2.out hd) (Kd.R_lower hr hs2.out)⟩; clear hr hd))
  go_ret
  exact ⟨_, rfl, HX.out, HF.out⟩
end Go.Proofs.Ytlmcefhpnfoahaa.P
end

section
namespace Go.Proofs.Ytlmcefhpnfoahaa.P
open Go.RowKit Go.Proofs.YtlmcefhpnfoahaaW.PrintWords Go.Proofs.YtlmcefhpnfoahaaW.PrintLast Go.Proofs.YtlmcefhpnfoahaaW.PrintMore
set_option linter.unusedVariables false
set_option linter.unusedSimpArgs false

/-- append(v, text...), v a row of the call's own, as one step of a region. -/
theorem str_step {ops : Array Oper} {o : Oper} {a : Act} {W w0 : World} {Kc : Act → World → Prop} {Q : Exit → Act → World → Prop} {B : Nat} {N : Option Tmp} {v : Value} {xs : List Int} (hw : Region.wanted o (yielded ops a.tmps) = true) (hN : o.dst = N) (s x : Operand)
    (ho : o.op = .call { callee := .builtin .append, args := #[s, x], argTypes := #[22, 9] }) (y : ByteArray) (hs : a.eval s = v) (hx : a.eval x = .string y) (hO : Own (Kd.int .u8) 5 B w0 W v xs) (hl : xs.length + y.size ≤ 140737488355328)
    (h : ∀ v1 w1, Own (Kd.int .u8) 5 B w0 w1 v1 (xs ++ bytesOf y) → Kc (a.put N v1) w1) :
    if Region.wanted o (yielded ops a.tmps) = true then Oper.wp Try.prog o a W Kc Q else Kc (a.put N undef) W := by
  subst hN
  obtain ⟨i0, hi, hzz⟩ := Option.map_eq_some_iff.1 info5
  simp only [Prod.mk.injEq] at hzz
  obtain ⟨hz0, hz1, hz2⟩ := hzz
  have HO := Kd.own_of_R hO.r
  obtain ⟨v1, w1, hr, hown, hg, _⟩ := Lib.run_append_own_string (P := Try.prog) W B 22 9 o.type 5 i0 Try.underlying22 Try.underlying9 hi hz0 hz1 hz2 v xs.length _ HO y (by simp only [maxLen]; omega) hl hO.s
  have hl2 : (xs ++ bytesOf y).length = xs.length + y.size := by rw [List.length_append, bytesOf_length]
  have hc : encs (fun n : Int => Value.int .u8 n) (xs ++ bytesOf y) = encs (fun n : Int => Value.int .u8 n) xs ++ Lib.strCells y := by
    simp [encs, bytesOf, Lib.strCells]
  have hb := hO.b.grown hg hO.s (own_base HO)
  refine event_step hw (v := v1) (w1 := w1) ?_ (h v1 w1 ⟨Kd.R_of_own (by rw [hl2, hc]; exact hown) (fun _ _ => trivial), hb, by have := hg.size; have := hO.s; omega⟩)
  unfold execOp
  simp only [ho, resolve, invoke, builtin, Sem.run_bind, Sem.run_pure, Result.andThen_ok, List.map_toArray, List.map_cons, List.map_nil, hs, hx, hr]
def GT128.T1 : Bool × List (List Nat × List Nat) := (true, [([], []), ([], []), ([1], [1]), ([2], [2]), ([3], [3]), ([0, 4], [0, 4]), ([], []), ([6], [6]), ([5, 7, 5], [5, 7]), ([8, 8, 0, 1, 2, 3, 4, 5, 6, 7, 8], [8])])
def GT128.B1 : List Nat := [0, 0, 2, 6, 14, 31, 0, 64, 255, 511]
theorem GT128.tab1 : rtab .any (opsOf Try.f128 1) = GT128.T1 := by kernel_rfl
theorem GT128.bits1 : waitsOk GT128.T1.2 GT128.B1 = true := by kernel_rfl
set_option maxRecDepth 100000 in
set_option maxHeartbeats 1000000 in
theorem way_text {B : Nat} {w0 W : World} {v : Value} {L : List Int} (hO : Own (Kd.int .u8) 5 B w0 W v L) (hl : L.length ≤ 1000000) (x : S39) (hx : x.f2.size ≤ 1000000) :
    Calls Try.prog 128 #[v, .agg #[.int .u8 x.f0, .int .i64 x.f1, .string x.f2]] W (PutPost B w0 W v (L ++ vput 9 x.f2.size ++ bytesOf x.f2)) := by
  have BX := Aside0.mk (Box.made hO #[.int .u8 x.f0, .int .i64 x.f1, .string x.f2] 39)
  have HS := Aside0.mk (And.intro hO.b hO.s)
  obtain ⟨A, n, c, e, hn, hc, hC⟩ := hO.sl'
  subst e
  obtain rfl : n = L.length := hn.out
  have HC := Aside0.mk (Kd.C_alloc hC.out (.cells #[.int .u8 x.f0, .int .i64 x.f1, .string x.f2] 39))
  have HP := Aside0.mk (show varint_Put.f L x.f2.size = some (L ++ vput 9 x.f2.size) by unfold varint_Put.f; exact if_pos ⟨by omega, by omega, by omega⟩)
  have hb1 := Aside0.mk (show Below W.heap.size W (W.alloc (.cells #[.int .u8 x.f0, .int .i64 x.f1, .string x.f2] 39)) from below_alloc (Below.refl _ _) _)
  have hs1 := Aside0.mk (show W.heap.size ≤ (W.alloc (.cells #[.int .u8 x.f0, .int .i64 x.f1, .string x.f2] 39)).heap.size by simp)
  have HQ : Aside0 (∀ W' : World, Below (W.alloc (.cells #[.int .u8 x.f0, .int .i64 x.f1, .string x.f2] 39)).heap.size (W.alloc (.cells #[.int .u8 x.f0, .int .i64 x.f1, .string x.f2] 39)) W' → W'.cell? ⟨W.heap.size, 2, none⟩ = some (.string x.f2)) := ⟨fun W' hW => by
    have q := BX.out.cell 2 rfl
    exact (hW.cell (World.block_lt_of_cell? _ _ q)).trans q⟩
  have B1 := Aside0.mk (below_drew1 (Below.refl (W.alloc (.cells #[.int .u8 x.f0, .int .i64 x.f1, .string x.f2] 39)).heap.size (W.alloc (.cells #[.int .u8 x.f0, .int .i64 x.f1, .string x.f2] 39))))
  have hlen : (L ++ vput 9 x.f2.size).length + x.f2.size ≤ 140737488355328 := by
    have := vput_length 9 x.f2.size
    rw [List.length_append]
    omega
  have hw64 : IntKind.u64.wrap (x.f2.size : Int) = x.f2.size := by
    show (x.f2.size : Int) % 18446744073709551616 = _
    omega
  clear hO hn hC
  go_enter Try.func128, Try.ntmps128
  go_wp2_with fail
  refine start_ (n := 10) (S := fun W' => Below (W.alloc (.cells #[.int .u8 x.f0, .int .i64 x.f1, .string x.f2] 39)).heap.size (W.alloc (.cells #[.int .u8 x.f0, .int .i64 x.f1, .string x.f2] 39)) W' ∧ W'.cell? ⟨W.heap.size, 2, none⟩ = some (.string x.f2)) (ds := []) #[false, false, false, false, false, false, false, false, false, false] (by kernel_rfl) rfl rfl (⟨B1.out, HQ.out _ B1.out⟩) (fun hHeld => ?_)
  refine with_tabW GT128.tab1 GT128.bits1 (fun HT_ HW_ => ?_)
  refine pure_ (i := 0) (N := some 5) (v := ?_) (a' := ?_) #[true, false, false, false, false, false, false, false, false, false] rfl rfl (any_of HT_.out (by kernel_rfl)) (fun _ _ _ h => h) (Or.inl ⟨by rfl, ?_⟩) ?_ ?_
  rotate_left
  · intro w'
    go_simp
    with_reducible rfl
  rotate_left
  · simp only [Act.put, List.setIfInBounds_toArray, List.set_cons_zero, List.set_cons_succ, i64_w, i32_w]
    rfl
  refine pure_ (i := 1) (N := some 6) (v := ?_) (a' := ?_) #[true, true, false, false, false, false, false, false, false, false] rfl rfl (any_of HT_.out (by kernel_rfl)) (fun _ _ _ h => h) (Or.inl ⟨by rfl, ?_⟩) ?_ ?_
  rotate_left
  · intro w'
    go_simp
    with_reducible rfl
  rotate_left
  · simp only [Act.put, List.setIfInBounds_toArray, List.set_cons_zero, List.set_cons_succ, i64_w, i32_w]
    rfl
  refine take_ (i := 2) (N := some 7) (v := ?_) (a' := ?_) #[true, true, true, false, false, false, false, false, false, false] rfl rfl (take_ofW HT_.out HW_.out (by kernel_rfl)) (fun _ _ _ h => h) (Or.inl ⟨by rfl, ?_⟩) hHeld ?_ ?_
  rotate_left
  · intro w' s0
    (try dsimp only at s0)
    (try go_split_ands)
    go_simp
    with_reducible rfl
  rotate_left
  · simp only [Act.put, List.setIfInBounds_toArray, List.set_cons_zero, List.set_cons_succ, i64_w, i32_w]
    rfl
  refine pure_ (i := 3) (N := some 8) (v := ?_) (a' := ?_) #[true, true, true, true, false, false, false, false, false, false] rfl rfl (any_of HT_.out (by kernel_rfl)) (fun _ _ _ h => h) (Or.inl ⟨by rfl, ?_⟩) ?_ ?_
  rotate_left
  · intro w'
    go_simp
    with_reducible rfl
  rotate_left
  · simp only [Act.put, List.setIfInBounds_toArray, List.set_cons_zero, List.set_cons_succ, i64_w, i32_w]
    rfl
  refine pure_ (i := 4) (N := some 9) (v := ?_) (a' := ?_) #[true, true, true, true, true, false, false, false, false, false] rfl rfl (any_of HT_.out (by kernel_rfl)) (fun _ _ _ h => h) (Or.inl ⟨by rfl, ?_⟩) ?_ ?_
  rotate_left
  · intro w'
    go_simp
    with_reducible rfl
  rotate_left
  · simp only [Act.put, List.setIfInBounds_toArray, List.set_cons_zero, List.set_cons_succ, i64_w, i32_w]
    rfl
  refine pure_ (i := 6) (N := some 11) (v := ?_) (a' := ?_) #[true, true, true, true, true, false, true, false, false, false] rfl rfl (any_of HT_.out (by kernel_rfl)) (fun _ _ _ h => h) (Or.inl ⟨by rfl, ?_⟩) ?_ ?_
  rotate_left
  · intro w'
    go_simp
    with_reducible rfl
  rotate_left
  · simp only [Act.put, List.setIfInBounds_toArray, List.set_cons_zero, List.set_cons_succ, i64_w, i32_w]
    rfl
  refine take_ (i := 7) (N := some 12) (v := ?_) (a' := ?_) #[true, true, true, true, true, false, true, true, false, false] rfl rfl (take_ofW HT_.out HW_.out (by kernel_rfl)) (fun _ _ _ h => h) (Or.inl ⟨by rfl, ?_⟩) hHeld ?_ ?_
  rotate_left
  · intro w' s0
    (try dsimp only at s0)
    (try go_split_ands)
    go_simp
    with_reducible rfl
  rotate_left
  · simp only [Act.put, List.setIfInBounds_toArray, List.set_cons_zero, List.set_cons_succ, i64_w, i32_w]
    rfl
  refine one_ (i := 5) (N := some 10) #[true, true, true, true, true, true, true, true, false, false] rfl rfl (one_of HT_.out (by kernel_rfl)) (by decide) (fun K hK => ?_)
  refine goes_ Try.func80 (by kernel_rfl) rfl #[.slice A L.length c, .int .u64 x.f2.size] (by rfl) rfl rfl (by (try simp only [List.map_toArray, List.map_cons, List.map_nil]); first | done | rfl) ?_
  refine (varint_Put.calls A c L x.f2.size _ _ (Kd.C_below HC.out B1.out) hc HP.out).mono ?_
  rintro e w2 ⟨v2, rfl, hr, hd⟩
  have B2 := Aside0.mk (below_then B1.out B1.out.size hd)
  have HX := Aside0.mk (Own.made B1.out B1.out.size hr hd)
  clear hr hd
  refine ⟨_, rfl, ?_⟩
  refine hK.out _ _ (⟨B2.out, HQ.out _ B2.out⟩) (fun hHeld => ?_)
  clear hK K
  refine norm_ (a' := ?_) ?_ ?_
  rotate_left
  · show Act.put _ (some 10) _ = _
    simp only [Act.put, List.setIfInBounds_toArray, List.set_cons_zero, List.set_cons_succ, i64_w, i32_w]
    rfl
  refine one_ (i := 8) (N := some 13) #[true, true, true, true, true, true, true, true, true, false] rfl rfl (one_of HT_.out (by kernel_rfl)) (by decide) (fun K hK => ?_)
  refine str_step (by rfl) rfl (.tmp 10) (.tmp 12) rfl x.f2 (by rfl) (by rfl) HX.out hlen ?_
  intro v3 w3 ho
  have HY := Aside0.mk ho
  clear ho
  refine hK.out _ _ (⟨HY.out.b, HQ.out _ HY.out.b⟩) (fun hHeld => ?_)
  clear hK K
  refine norm_ (a' := ?_) ?_ ?_
  rotate_left
  · show Act.put _ (some 13) _ = _
    simp only [Act.put, List.setIfInBounds_toArray, List.set_cons_zero, List.set_cons_succ, i64_w, i32_w]
    rfl
  refine pure_ (i := 9) (N := some 4) (v := ?_) (a' := ?_) #[true, true, true, true, true, true, true, true, true, true] rfl rfl (any_of HT_.out (by kernel_rfl)) (fun _ _ _ h => h) (Or.inl ⟨by rfl, ?_⟩) ?_ ?_
  rotate_left
  · intro w'
    go_simp
    with_reducible rfl
  rotate_left
  · simp only [Act.put, List.setIfInBounds_toArray, List.set_cons_zero, List.set_cons_succ, i64_w, i32_w]
    rfl
  refine done_ (done_of HT_.out (by kernel_rfl)) ?_
  go_wp2_with fail
  go_ret
  exact ⟨_, rfl, Own.made (HS.out.1.alloc HS.out.2 _) (Nat.le_trans HS.out.2 hs1.out) HY.out.r HY.out.b, fun g o hb => hb.fresh (below_then hb1.out hs1.out HY.out.b) (Kd.R_lower HY.out.r hs1.out)⟩
end Go.Proofs.Ytlmcefhpnfoahaa.P
end

section
namespace Go.Proofs.Ytlmcefhpnfoahaa.P
open Go.RowKit Go.Proofs.YtlmcefhpnfoahaaW.PrintWords Go.Proofs.YtlmcefhpnfoahaaW.PrintLast Go.Proofs.YtlmcefhpnfoahaaW.PrintMore
open Go.ChangeMaps (setBlock)
section
variable {P : Program}
theorem isKey_int (q : IntKind) (k : Int) : MapKept.IsKey (.int q) (.int q k) := by simp [MapKept.IsKey]
theorem map_store_new (w : World) {t kt et : TypeId} {q : IntKind} (ht : P.underlying t = some (.map kt et)) (hk : P.underlying kt = some (.int q)) (es : Array MapEntry) (clock : Nat) (k : Int) (v : Value)
    (hn : Instr.findNow (.int q) (.int q k) es.toList 0 = some none) :
    (Instr.mapUpdate t (.map (some w.heap.size)) (.int q k) v).run P (w.alloc (.map es clock)) = .ok () (w.alloc (.map (es.push ⟨.int q k, v, clock⟩) (clock + 1))) := by
  have hb : (w.alloc (.map es clock)).heap[w.heap.size]? = some (.map es clock) := heap_alloc_new w _
  have e : setBlock (w.alloc (.map es clock)) w.heap.size (.map (es.push ⟨.int q k, v, clock⟩) (clock + 1)) = w.alloc (.map (es.push ⟨.int q k, v, clock⟩) (clock + 1)) := by
    simp [setBlock, World.alloc, -World.alloc_eq]
    apply Array.ext_getElem?
    intro i
    rw [Array.getElem?_setIfInBounds, Array.getElem?_push, Array.getElem?_push]
    by_cases hi : w.heap.size = i
    · subst hi; simp
    · rw [if_neg hi, if_neg (fun e => hi e.symm), if_neg (fun e => hi e.symm)]
  rw [← e]
  simp [Instr.mapUpdate, run_underlying ht, MapKept.run_getObj_map hb, MapKept.run_checkKey hk (isKey_int q k), MapKept.run_findKey hk hn, MapKept.run_setObj_map _ hb, Result.andThen, setBlock]
theorem map_look (w : World) {t kt et : TypeId} {q : IntKind} (ht : P.underlying t = some (.map kt et)) (hk : P.underlying kt = some (.int q)) {b : Nat} {es : Array MapEntry} {clock : Nat} (hb : w.heap[b]? = some (.map es clock)) (k : Int) {i : Nat} {v : Value}
    (hn : Instr.findNow (.int q) (.int q k) es.toList 0 = some (some (i, v))) :
    (Instr.lookup t (.map (some b)) (.int q k) true).run P w = .ok (.tuple #[v, .bool true]) w ∧ (Instr.lookup t (.map (some b)) (.int q k) false).run P w = .ok v w := by
  constructor <;> simp [Instr.lookup, run_underlying ht, MapKept.run_getObj_map hb, MapKept.run_checkKey hk (isKey_int q k), MapKept.run_findKey hk hn, Result.andThen]
theorem map_look_no (w : World) {t kt et : TypeId} {q : IntKind} (ht : P.underlying t = some (.map kt et)) (hk : P.underlying kt = some (.int q)) {b : Nat} {es : Array MapEntry} {clock : Nat} (hb : w.heap[b]? = some (.map es clock)) (k : Int) {z : Value}
    (hz : (zeroValue et).run P w = .ok z w) (hn : Instr.findNow (.int q) (.int q k) es.toList 0 = some none) :
    (Instr.lookup t (.map (some b)) (.int q k) true).run P w = .ok (.tuple #[z, .bool false]) w := by
  simp [Instr.lookup, run_underlying ht, MapKept.run_getObj_map hb, MapKept.run_checkKey hk (isKey_int q k), MapKept.run_findKey hk hn, hz, Result.andThen]
end
end Go.Proofs.Ytlmcefhpnfoahaa.P
end

section
namespace Go.Proofs.Ytlmcefhpnfoahaa.P
open Go.RowKit Go.Proofs.YtlmcefhpnfoahaaW.PrintWords Go.Proofs.YtlmcefhpnfoahaaW.PrintLast Go.Proofs.YtlmcefhpnfoahaaW.PrintMore
set_option linter.unusedVariables false
set_option linter.unusedSimpArgs false

/-- A way: the two functions. -/
def wayV (p g : Nat) : Value := .agg #[.func (.func p) #[] #[], .func (.func g) #[] #[]]
/-- The ways, by types. -/
def waysMap : Array MapEntry := #[⟨.int .u8 1, .agg #[.func (.func 121) #[] #[], .func (.func 122) #[] #[]], 0⟩, ⟨.int .u8 2, .agg #[.func (.func 123) #[] #[], .func (.func 125) #[] #[]], 1⟩, ⟨.int .u8 3, .agg #[.func (.func 128) #[] #[], .func (.func 129) #[] #[]], 2⟩]
set_option maxHeartbeats 800000 in
theorem ways_any (w : World) : Calls Try.prog 84 #[] w fun e w' => e = .returned (.map (some w.heap.size)) ∧ w' = w.alloc (.map waysMap 3) := by
  have hmm := @run_makeMap Try.prog
  have i1 := map_store_new (P := Try.prog) w Try.underlying100 Try.underlying5 #[] 0 1 (.agg #[.func (.func 121) #[] #[], .func (.func 122) #[] #[]]) rfl
  have i2 := map_store_new (P := Try.prog) w Try.underlying100 Try.underlying5 #[⟨.int .u8 1, .agg #[.func (.func 121) #[] #[], .func (.func 122) #[] #[]], 0⟩] 1 2 (.agg #[.func (.func 123) #[] #[], .func (.func 125) #[] #[]]) rfl
  have i3 := map_store_new (P := Try.prog) w Try.underlying100 Try.underlying5 #[⟨.int .u8 1, .agg #[.func (.func 121) #[] #[], .func (.func 122) #[] #[]], 0⟩, ⟨.int .u8 2, .agg #[.func (.func 123) #[] #[], .func (.func 125) #[] #[]], 1⟩] 2 3 (.agg #[.func (.func 128) #[] #[], .func (.func 129) #[] #[]]) rfl
  go_enter Try.func84, Try.ntmps84
  go_wp2
  go_ret
  exact ⟨rfl, rfl⟩
end Go.Proofs.Ytlmcefhpnfoahaa.P
end

section
namespace Go.Proofs.Ytlmcefhpnfoahaa.P
open Go.RowKit Go.Proofs.YtlmcefhpnfoahaaW.PrintWords Go.Proofs.YtlmcefhpnfoahaaW.PrintLast Go.Proofs.YtlmcefhpnfoahaaW.PrintMore
attribute [local go_sem] max2_int min2_int max_two min_two max_three min_three max_four min_four   -- for this text's walks alone
set_option linter.unusedVariables false
set_option linter.unusedSimpArgs false

/-! ### row_known: function 83 -/
def row_known.l0 : Nat → List Int → Int → Int → Option (Bool)
  | 0, _, _, _ => none
  | k + 1, x5, x6, x7 => if x7 < x6 then (if 0 ≤ x7 then (if x7 < (x5.length : Int) then (if (rd x5 x7) < 1 then (some false) else (if (rd x5 x7) > 3 then (some false) else (row_known.l0 k x5 x6 (wrap64 (x7 + 1))))) else (none)) else (none)) else (some true)
def row_known.f (k : Nat) (l0 : List Int) : Option (Bool) := row_known.l0 k l0 (l0.length : Int) 0
theorem row_known.mono_l : ∀ k, (∀ y0 y1 y2, LeO (row_known.l0 k y0 y1 y2) (row_known.l0 (k + 1) y0 y1 y2))
  | 0 => fun _ _ _ r h => by simp [row_known.l0] at h
  | k + 1 => by
    have ih0 := row_known.mono_l k
    · intro y0 y1 y2
      unfold row_known.l0
      repeat' first
      | (with_reducible exact ih0 _ _ _)
      | (with_reducible exact LeO.refl _)
      | (with_reducible exact LeO.none _)
      | (with_reducible refine LeO.ite ?_ ?_)
      | (with_reducible refine LeO.bind ?_ (fun _ => ?_))
      | exact ih0 _ _ _
      | exact LeO.none _
      | refine LeO.ite ?_ ?_
      | refine LeO.bind ?_ (fun _ => ?_)
theorem row_known.mono : ∀ a0 k, LeO (row_known.f k a0) (row_known.f (k + 1) a0) := by
  intro a0 k
  have ih0 := row_known.mono_l k
  unfold row_known.f
  repeat' first
      | (with_reducible exact ih0 _ _ _)
      | (with_reducible exact LeO.refl _)
      | (with_reducible exact LeO.none _)
      | (with_reducible refine LeO.ite ?_ ?_)
      | (with_reducible refine LeO.bind ?_ (fun _ => ?_))
      | exact ih0 _ _ _
      | exact LeO.none _
      | refine LeO.ite ?_ ?_
      | refine LeO.bind ?_ (fun _ => ?_)
set_option maxHeartbeats 8000000 in
set_option maxRecDepth 100000 in
theorem row_known.calls (k : Nat) (A0 : Option Addr) (c0 : Nat) (l0 : List Int) (r : Bool) (w : World) (hr0 : Kd.C (Kd.int .u8) w A0 l0.length l0) (hc0 : l0.length ≤ c0) (h : row_known.f k l0 = some r) :
    Calls Try.prog 83 #[.slice A0 l0.length c0] w fun e w' => e = .returned (.bool r) ∧ Drawn0 w w' := by
  have HR0 := Aside0.mk hr0
  have HC0 := Aside0.mk hc0
  clear hr0 hc0
  have H : (row_known.l0 k l0 (l0.length : Int) 0) = some r := h
  clear h
  have H' := Aside0.mk H
  clear H
  go_enter Try.func83, Try.ntmps83
  go_wp2
  go_loopg [7] k (fun kq v7 w' => ∃ (x7_1 : Int), v7 = .int .i64 x7_1 ∧ Aside0 (row_known.l0 kq l0 (l0.length : Int) x7_1 = some r) ∧ Aside0 (kq ≤ k) ∧ Drawn0 w w')
  case atStart => exact ⟨(0), (by first | rfl | (simp; done) | (simp [*]; done)), H', ⟨Nat.le_refl _⟩, by repeat (first | exact Drawn0.refl _ | apply Drawn0.step)⟩
  case round =>
    clear H'
    obtain ⟨x7_1, rfl, HA, HK1, ⟨m1, rfl⟩⟩ := hrel
    cases gk with
    | zero => exact absurd HA.out (by simp [row_known.l0])
    | succ k1 =>
      have H := HA.out
      clear HA
      simp only [row_known.l0] at H
      by_cases c2 : x7_1 < (l0.length : Int)
      · rw [if_pos c2] at H
        have c2b0 : decide (x7_1 < (l0.length : Int)) = true := decide_eq_true c2
        clear c2
        by_cases c3 : 0 ≤ x7_1
        · rw [if_pos c3] at H
          have c3b0 : decide (0 ≤ x7_1) = true := decide_eq_true c3
          clear c3
          by_cases c4 : x7_1 < (l0.length : Int)
          · rw [if_pos c4] at H
            have c4b0 : decide (x7_1 < (l0.length : Int)) = true := decide_eq_true c4
            clear c4
            by_cases c5 : (rd l0 x7_1) < 1
            · rw [if_pos c5] at H
              have c5b0 : decide ((rd l0 x7_1) < 1) = true := decide_eq_true c5
              clear c5
              obtain rfl := Option.some.inj H
              have p380 : 0 ≤ (x7_1 : Int) := of_decide_eq_true (by first | (with_reducible assumption) | assumption)
              have q380 : x7_1 < (l0.length : Int) := of_decide_eq_true (by first | (with_reducible assumption) | assumption)
              obtain ⟨ad380, e380, hx380_0⟩ := Kd.at_int HR0.out x7_1 p380 q380
              cases e380
              replace p380 := eq_true p380
              replace q380 := eq_true q380
              go_wp2
              go_ret
              exact ⟨by first | rfl | (simp; done) | (simp [*]; done), by repeat (first | exact Drawn0.refl _ | apply Drawn0.step)⟩
            · rw [if_neg c5] at H
              have c5b0 : decide ((rd l0 x7_1) < 1) = false := decide_eq_false c5
              clear c5
              by_cases c6 : (rd l0 x7_1) > 3
              · rw [if_pos c6] at H
                have c6b0 : decide (3 < (rd l0 x7_1)) = true := decide_eq_true c6
                clear c6
                obtain rfl := Option.some.inj H
                have p380 : 0 ≤ (x7_1 : Int) := of_decide_eq_true (by first | (with_reducible assumption) | assumption)
                have q380 : x7_1 < (l0.length : Int) := of_decide_eq_true (by first | (with_reducible assumption) | assumption)
                obtain ⟨ad380, e380, hx380_0⟩ := Kd.at_int HR0.out x7_1 p380 q380
                cases e380
                replace p380 := eq_true p380
                replace q380 := eq_true q380
                go_wp2
                go_ret
                exact ⟨by first | rfl | (simp; done) | (simp [*]; done), by repeat (first | exact Drawn0.refl _ | apply Drawn0.step)⟩
              · rw [if_neg c6] at H
                have c6b0 : decide (3 < (rd l0 x7_1)) = false := decide_eq_false c6
                clear c6
                have H' := Aside0.mk H
                clear H
                have p380 : 0 ≤ (x7_1 : Int) := of_decide_eq_true (by first | (with_reducible assumption) | assumption)
                have q380 : x7_1 < (l0.length : Int) := of_decide_eq_true (by first | (with_reducible assumption) | assumption)
                obtain ⟨ad380, e380, hx380_0⟩ := Kd.at_int HR0.out x7_1 p380 q380
                cases e380
                replace p380 := eq_true p380
                replace q380 := eq_true q380
                go_wp2
                go_roundg k1
                case measure => have := HK1.out; omega
                case rel => exact ⟨(wrap64 (x7_1 + 1)), (by first | rfl | (simp; done) | (simp [*]; done)), H', ⟨by have := HK1.out; omega⟩, by repeat (first | exact Drawn0.refl _ | apply Drawn0.step)⟩
          · rw [if_neg c4] at H
            exact absurd H (by simp)
        · rw [if_neg c3] at H
          exact absurd H (by simp)
      · rw [if_neg c2] at H
        have c2b0 : decide (x7_1 < (l0.length : Int)) = false := decide_eq_false c2
        clear c2
        obtain rfl := Option.some.inj H
        go_wp2
        go_ret
        exact ⟨by first | rfl | (simp; done) | (simp [*]; done), by repeat (first | exact Drawn0.refl _ | apply Drawn0.step)⟩

end Go.Proofs.Ytlmcefhpnfoahaa.P
end

section
namespace Go.Proofs.Ytlmcefhpnfoahaa.P
open Go.RowKit Go.Proofs.YtlmcefhpnfoahaaW.PrintWords Go.Proofs.YtlmcefhpnfoahaaW.PrintLast Go.Proofs.YtlmcefhpnfoahaaW.PrintMore
attribute [local go_sem] max2_int min2_int max_two min_two max_three min_three max_four min_four   -- for this text's walks alone
set_option linter.unusedVariables false
set_option linter.unusedSimpArgs false

theorem eqA39 (d : Nat) (w : World) (x0 y0 : Int) (x1 y1 : Int) (x2 y2 : ByteArray) :
    (Op.equalIn (d + 2) 39 (.agg #[.int .u8 x0, .int .i64 x1, .string x2]) (.agg #[.int .u8 y0, .int .i64 y1, .string y2])).run Try.prog w = .ok (x0 == y0 && (x1 == y1 && (x2.toList == y2.toList))) w := by
  refine eqA_of Try.underlying39 (by kernel_rfl) ?_
  refine eqf_cons (by rfl) (by go_simp; rfl) (by go_simp; rfl) (by go_simp) ?_
  refine eqf_cons (by rfl) (by go_simp; rfl) (by go_simp; rfl) (by go_simp) ?_
  exact eqf_last (by rfl) (by go_simp; rfl) (by go_simp; rfl) (by go_simp)
end Go.Proofs.Ytlmcefhpnfoahaa.P
end

section
namespace Go.Proofs.Ytlmcefhpnfoahaa.P
open Go.RowKit Go.Proofs.YtlmcefhpnfoahaaW.PrintWords Go.Proofs.YtlmcefhpnfoahaaW.PrintLast Go.Proofs.YtlmcefhpnfoahaaW.PrintMore
attribute [local go_sem] max2_int min2_int max_two min_two max_three min_three max_four min_four   -- for this text's walks alone
set_option linter.unusedVariables false
set_option linter.unusedSimpArgs false

attribute [local go_sem high] eqA39
/-! ### key_may: function 73 -/
def key_may.f (a0_0 : Int) (a0_1 : Int) (a0_2 : ByteArray) : Option (Bool) := if a0_0 = 0 then (some (a0_0 == 0 && (a0_1 == 0 && (a0_2.toList == ([] : List UInt8))))) else (if a0_0 = 1 then (if a0_1 = 0 then (some (a0_2.toList == ([] : List UInt8))) else (if a0_1 = 1 then (some (a0_2.toList == ([] : List UInt8))) else (some false))) else (if a0_0 = 2 then (some (a0_2.toList == ([] : List UInt8))) else (if a0_0 = 3 then (some (a0_1 == 0)) else (some false))))
set_option maxHeartbeats 8000000 in
set_option maxRecDepth 100000 in
theorem key_may.calls (a0_0 : Int) (a0_1 : Int) (a0_2 : ByteArray) (r : Bool) (w : World) (h : key_may.f a0_0 a0_1 a0_2 = some r) :
    Calls Try.prog 73 #[.agg #[.int .u8 a0_0, .int .i64 a0_1, .string a0_2]] w fun e w' => e = .returned (.bool r) ∧ Below w.heap.size w w' := by
  have hu39 := Try.underlying39
  have HB := Aside0.mk (Below.refl w.heap.size w)
  have H : (if a0_0 = 0 then (some (a0_0 == 0 && (a0_1 == 0 && (a0_2.toList == ([] : List UInt8))))) else (if a0_0 = 1 then (if a0_1 = 0 then (some (a0_2.toList == ([] : List UInt8))) else (if a0_1 = 1 then (some (a0_2.toList == ([] : List UInt8))) else (some false))) else (if a0_0 = 2 then (some (a0_2.toList == ([] : List UInt8))) else (if a0_0 = 3 then (some (a0_1 == 0)) else (some false))))) = some r := h
  clear h
  by_cases c2 : a0_0 = 0
  · rw [if_pos c2] at H
    have c2b0 : (a0_0 == 0) = true := beq_iff_eq.mpr c2
    have c2b1 : (a0_0 != 0) = false := bne_eq_false_iff_eq.mpr c2
    clear c2
    obtain rfl := Option.some.inj H
    go_enter Try.func73, Try.ntmps73
    go_wp2_with (first | ((with_reducible refine gate_dst (N := 1) rfl ?_); refine box_event ?hg (N := 1) ?hd (cs := #[.int .u8 a0_0, .int .i64 a0_1, .string a0_2]) (t := 39) ?hr ?_; (case hd => rfl); (case hg => rfl); (case hr => first | (go_simp; done) | (go_simp; rfl)); intro gb102 hg w3 hbox hb; have n0_ := Aside0.mk (below_step (by repeat (first | (with_reducible first | exact HB.out | apply below_alloc | apply pw_below_drewN | apply below_drew1) | exact HB.out)) hb); have n1_ := Aside0.mk (hbox); have n2_ := Aside0.mk ((by rw [hg]; exact (below_size (by repeat (first | (with_reducible first | exact HB.out | apply below_alloc | apply pw_below_drewN | apply below_drew1) | exact HB.out))) : w.heap.size ≤ gb102)); have n3_ := Aside0.mk ((by rw [hg]; exact (below_size (by repeat (first | (with_reducible first | exact HB.out | apply below_alloc | apply pw_below_drewN | apply below_drew1) | exact HB.out))) : w.heap.size ≤ gb102)); clear HB; have HB := n0_; have BK102 := n1_; have GW102 := n2_; have GE102 := n3_; clear n0_ n1_ n2_ n3_; clear hb hbox hg; have hcz4_0 : w3.cell? ⟨gb102, 0, none⟩ = some (.int .u8 a0_0) := (blk_cell BK102.out 0).trans rfl; have hcz4_1 : w3.cell? ⟨gb102, 1, none⟩ = some (.int .i64 a0_1) := (blk_cell BK102.out 1).trans rfl; have hcz4_2 : w3.cell? ⟨gb102, 2, none⟩ = some (.string a0_2) := (blk_cell BK102.out 2).trans rfl; have hfz4_0 := blk_frozen BK102.out 0; have hfz4_1 := blk_frozen BK102.out 1; have hfz4_2 := blk_frozen BK102.out 2))
    go_ret
    exact ⟨by first | rfl | (simp [errW_none, errW_some] <;> rfl) | (simp [*, errW_none, errW_some] <;> rfl), by repeat (first | (with_reducible first | exact HB.out | apply below_alloc | apply pw_below_drewN | apply below_drew1 | refine below_set ?_ GE102.out) | exact HB.out)⟩
  · rw [if_neg c2] at H
    have c2b0 : (a0_0 == 0) = false := beq_eq_false_iff_ne.mpr c2
    have c2b1 : (a0_0 != 0) = true := bne_iff_ne.mpr c2
    by_cases c5 : a0_0 = 1
    · rw [if_pos c5] at H
      have c5b0 : (a0_0 == 1) = true := beq_iff_eq.mpr c5
      have c5b1 : (a0_0 != 1) = false := bne_eq_false_iff_eq.mpr c5
      clear c5
      by_cases c6 : a0_1 = 0
      · rw [if_pos c6] at H
        have c6b0 : (a0_1 == 0) = true := beq_iff_eq.mpr c6
        have c6b1 : (a0_1 != 0) = false := bne_eq_false_iff_eq.mpr c6
        clear c6
        obtain rfl := Option.some.inj H
        go_enter Try.func73, Try.ntmps73
        go_wp2_with (first | ((with_reducible refine gate_dst (N := 1) rfl ?_); refine box_event ?hg (N := 1) ?hd (cs := #[.int .u8 a0_0, .int .i64 a0_1, .string a0_2]) (t := 39) ?hr ?_; (case hd => rfl); (case hg => rfl); (case hr => first | (go_simp; done) | (go_simp; rfl)); intro gb102 hg w7 hbox hb; have n0_ := Aside0.mk (below_step (by repeat (first | (with_reducible first | exact HB.out | apply below_alloc | apply pw_below_drewN | apply below_drew1) | exact HB.out)) hb); have n1_ := Aside0.mk (hbox); have n2_ := Aside0.mk ((by rw [hg]; exact (below_size (by repeat (first | (with_reducible first | exact HB.out | apply below_alloc | apply pw_below_drewN | apply below_drew1) | exact HB.out))) : w.heap.size ≤ gb102)); have n3_ := Aside0.mk ((by rw [hg]; exact (below_size (by repeat (first | (with_reducible first | exact HB.out | apply below_alloc | apply pw_below_drewN | apply below_drew1) | exact HB.out))) : w.heap.size ≤ gb102)); clear HB; have HB := n0_; have BK102 := n1_; have GW102 := n2_; have GE102 := n3_; clear n0_ n1_ n2_ n3_; clear hb hbox hg; have hcz8_0 : w7.cell? ⟨gb102, 0, none⟩ = some (.int .u8 a0_0) := (blk_cell BK102.out 0).trans rfl; have hcz8_1 : w7.cell? ⟨gb102, 1, none⟩ = some (.int .i64 a0_1) := (blk_cell BK102.out 1).trans rfl; have hcz8_2 : w7.cell? ⟨gb102, 2, none⟩ = some (.string a0_2) := (blk_cell BK102.out 2).trans rfl; have hfz8_0 := blk_frozen BK102.out 0; have hfz8_1 := blk_frozen BK102.out 1; have hfz8_2 := blk_frozen BK102.out 2))
        go_ret
        exact ⟨by first | rfl | (simp [errW_none, errW_some] <;> rfl) | (simp [*, errW_none, errW_some] <;> rfl), by repeat (first | (with_reducible first | exact HB.out | apply below_alloc | apply pw_below_drewN | apply below_drew1 | refine below_set ?_ GE102.out) | exact HB.out)⟩
      · rw [if_neg c6] at H
        have c6b0 : (a0_1 == 0) = false := beq_eq_false_iff_ne.mpr c6
        have c6b1 : (a0_1 != 0) = true := bne_iff_ne.mpr c6
        by_cases c9 : a0_1 = 1
        · rw [if_pos c9] at H
          have c9b0 : (a0_1 == 1) = true := beq_iff_eq.mpr c9
          have c9b1 : (a0_1 != 1) = false := bne_eq_false_iff_eq.mpr c9
          clear c9
          obtain rfl := Option.some.inj H
          go_enter Try.func73, Try.ntmps73
          go_wp2_with (first | ((with_reducible refine gate_dst (N := 1) rfl ?_); refine box_event ?hg (N := 1) ?hd (cs := #[.int .u8 a0_0, .int .i64 a0_1, .string a0_2]) (t := 39) ?hr ?_; (case hd => rfl); (case hg => rfl); (case hr => first | (go_simp; done) | (go_simp; rfl)); intro gb102 hg w10 hbox hb; have n0_ := Aside0.mk (below_step (by repeat (first | (with_reducible first | exact HB.out | apply below_alloc | apply pw_below_drewN | apply below_drew1) | exact HB.out)) hb); have n1_ := Aside0.mk (hbox); have n2_ := Aside0.mk ((by rw [hg]; exact (below_size (by repeat (first | (with_reducible first | exact HB.out | apply below_alloc | apply pw_below_drewN | apply below_drew1) | exact HB.out))) : w.heap.size ≤ gb102)); have n3_ := Aside0.mk ((by rw [hg]; exact (below_size (by repeat (first | (with_reducible first | exact HB.out | apply below_alloc | apply pw_below_drewN | apply below_drew1) | exact HB.out))) : w.heap.size ≤ gb102)); clear HB; have HB := n0_; have BK102 := n1_; have GW102 := n2_; have GE102 := n3_; clear n0_ n1_ n2_ n3_; clear hb hbox hg; have hcz11_0 : w10.cell? ⟨gb102, 0, none⟩ = some (.int .u8 a0_0) := (blk_cell BK102.out 0).trans rfl; have hcz11_1 : w10.cell? ⟨gb102, 1, none⟩ = some (.int .i64 a0_1) := (blk_cell BK102.out 1).trans rfl; have hcz11_2 : w10.cell? ⟨gb102, 2, none⟩ = some (.string a0_2) := (blk_cell BK102.out 2).trans rfl; have hfz11_0 := blk_frozen BK102.out 0; have hfz11_1 := blk_frozen BK102.out 1; have hfz11_2 := blk_frozen BK102.out 2))
          go_ret
          exact ⟨by first | rfl | (simp [errW_none, errW_some] <;> rfl) | (simp [*, errW_none, errW_some] <;> rfl), by repeat (first | (with_reducible first | exact HB.out | apply below_alloc | apply pw_below_drewN | apply below_drew1 | refine below_set ?_ GE102.out) | exact HB.out)⟩
        · rw [if_neg c9] at H
          have c9b0 : (a0_1 == 1) = false := beq_eq_false_iff_ne.mpr c9
          have c9b1 : (a0_1 != 1) = true := bne_iff_ne.mpr c9
          obtain rfl := Option.some.inj H
          go_enter Try.func73, Try.ntmps73
          go_wp2_with (first | ((with_reducible refine gate_dst (N := 1) rfl ?_); refine box_event ?hg (N := 1) ?hd (cs := #[.int .u8 a0_0, .int .i64 a0_1, .string a0_2]) (t := 39) ?hr ?_; (case hd => rfl); (case hg => rfl); (case hr => first | (go_simp; done) | (go_simp; rfl)); intro gb102 hg w12 hbox hb; have n0_ := Aside0.mk (below_step (by repeat (first | (with_reducible first | exact HB.out | apply below_alloc | apply pw_below_drewN | apply below_drew1) | exact HB.out)) hb); have n1_ := Aside0.mk (hbox); have n2_ := Aside0.mk ((by rw [hg]; exact (below_size (by repeat (first | (with_reducible first | exact HB.out | apply below_alloc | apply pw_below_drewN | apply below_drew1) | exact HB.out))) : w.heap.size ≤ gb102)); have n3_ := Aside0.mk ((by rw [hg]; exact (below_size (by repeat (first | (with_reducible first | exact HB.out | apply below_alloc | apply pw_below_drewN | apply below_drew1) | exact HB.out))) : w.heap.size ≤ gb102)); clear HB; have HB := n0_; have BK102 := n1_; have GW102 := n2_; have GE102 := n3_; clear n0_ n1_ n2_ n3_; clear hb hbox hg; have hcz13_0 : w12.cell? ⟨gb102, 0, none⟩ = some (.int .u8 a0_0) := (blk_cell BK102.out 0).trans rfl; have hcz13_1 : w12.cell? ⟨gb102, 1, none⟩ = some (.int .i64 a0_1) := (blk_cell BK102.out 1).trans rfl; have hcz13_2 : w12.cell? ⟨gb102, 2, none⟩ = some (.string a0_2) := (blk_cell BK102.out 2).trans rfl; have hfz13_0 := blk_frozen BK102.out 0; have hfz13_1 := blk_frozen BK102.out 1; have hfz13_2 := blk_frozen BK102.out 2))
          go_ret
          exact ⟨by first | rfl | (simp [errW_none, errW_some] <;> rfl) | (simp [*, errW_none, errW_some] <;> rfl), by repeat (first | (with_reducible first | exact HB.out | apply below_alloc | apply pw_below_drewN | apply below_drew1 | refine below_set ?_ GE102.out) | exact HB.out)⟩
    · rw [if_neg c5] at H
      have c5b0 : (a0_0 == 1) = false := beq_eq_false_iff_ne.mpr c5
      have c5b1 : (a0_0 != 1) = true := bne_iff_ne.mpr c5
      by_cases c14 : a0_0 = 2
      · rw [if_pos c14] at H
        have c14b0 : (a0_0 == 2) = true := beq_iff_eq.mpr c14
        have c14b1 : (a0_0 != 2) = false := bne_eq_false_iff_eq.mpr c14
        clear c14
        obtain rfl := Option.some.inj H
        go_enter Try.func73, Try.ntmps73
        go_wp2_with (first | ((with_reducible refine gate_dst (N := 1) rfl ?_); refine box_event ?hg (N := 1) ?hd (cs := #[.int .u8 a0_0, .int .i64 a0_1, .string a0_2]) (t := 39) ?hr ?_; (case hd => rfl); (case hg => rfl); (case hr => first | (go_simp; done) | (go_simp; rfl)); intro gb102 hg w15 hbox hb; have n0_ := Aside0.mk (below_step (by repeat (first | (with_reducible first | exact HB.out | apply below_alloc | apply pw_below_drewN | apply below_drew1) | exact HB.out)) hb); have n1_ := Aside0.mk (hbox); have n2_ := Aside0.mk ((by rw [hg]; exact (below_size (by repeat (first | (with_reducible first | exact HB.out | apply below_alloc | apply pw_below_drewN | apply below_drew1) | exact HB.out))) : w.heap.size ≤ gb102)); have n3_ := Aside0.mk ((by rw [hg]; exact (below_size (by repeat (first | (with_reducible first | exact HB.out | apply below_alloc | apply pw_below_drewN | apply below_drew1) | exact HB.out))) : w.heap.size ≤ gb102)); clear HB; have HB := n0_; have BK102 := n1_; have GW102 := n2_; have GE102 := n3_; clear n0_ n1_ n2_ n3_; clear hb hbox hg; have hcz16_0 : w15.cell? ⟨gb102, 0, none⟩ = some (.int .u8 a0_0) := (blk_cell BK102.out 0).trans rfl; have hcz16_1 : w15.cell? ⟨gb102, 1, none⟩ = some (.int .i64 a0_1) := (blk_cell BK102.out 1).trans rfl; have hcz16_2 : w15.cell? ⟨gb102, 2, none⟩ = some (.string a0_2) := (blk_cell BK102.out 2).trans rfl; have hfz16_0 := blk_frozen BK102.out 0; have hfz16_1 := blk_frozen BK102.out 1; have hfz16_2 := blk_frozen BK102.out 2))
        go_ret
        exact ⟨by first | rfl | (simp [errW_none, errW_some] <;> rfl) | (simp [*, errW_none, errW_some] <;> rfl), by repeat (first | (with_reducible first | exact HB.out | apply below_alloc | apply pw_below_drewN | apply below_drew1 | refine below_set ?_ GE102.out) | exact HB.out)⟩
      · rw [if_neg c14] at H
        have c14b0 : (a0_0 == 2) = false := beq_eq_false_iff_ne.mpr c14
        have c14b1 : (a0_0 != 2) = true := bne_iff_ne.mpr c14
        by_cases c17 : a0_0 = 3
        · rw [if_pos c17] at H
          have c17b0 : (a0_0 == 3) = true := beq_iff_eq.mpr c17
          have c17b1 : (a0_0 != 3) = false := bne_eq_false_iff_eq.mpr c17
          clear c17
          obtain rfl := Option.some.inj H
          go_enter Try.func73, Try.ntmps73
          go_wp2_with (first | ((with_reducible refine gate_dst (N := 1) rfl ?_); refine box_event ?hg (N := 1) ?hd (cs := #[.int .u8 a0_0, .int .i64 a0_1, .string a0_2]) (t := 39) ?hr ?_; (case hd => rfl); (case hg => rfl); (case hr => first | (go_simp; done) | (go_simp; rfl)); intro gb102 hg w18 hbox hb; have n0_ := Aside0.mk (below_step (by repeat (first | (with_reducible first | exact HB.out | apply below_alloc | apply pw_below_drewN | apply below_drew1) | exact HB.out)) hb); have n1_ := Aside0.mk (hbox); have n2_ := Aside0.mk ((by rw [hg]; exact (below_size (by repeat (first | (with_reducible first | exact HB.out | apply below_alloc | apply pw_below_drewN | apply below_drew1) | exact HB.out))) : w.heap.size ≤ gb102)); have n3_ := Aside0.mk ((by rw [hg]; exact (below_size (by repeat (first | (with_reducible first | exact HB.out | apply below_alloc | apply pw_below_drewN | apply below_drew1) | exact HB.out))) : w.heap.size ≤ gb102)); clear HB; have HB := n0_; have BK102 := n1_; have GW102 := n2_; have GE102 := n3_; clear n0_ n1_ n2_ n3_; clear hb hbox hg; have hcz19_0 : w18.cell? ⟨gb102, 0, none⟩ = some (.int .u8 a0_0) := (blk_cell BK102.out 0).trans rfl; have hcz19_1 : w18.cell? ⟨gb102, 1, none⟩ = some (.int .i64 a0_1) := (blk_cell BK102.out 1).trans rfl; have hcz19_2 : w18.cell? ⟨gb102, 2, none⟩ = some (.string a0_2) := (blk_cell BK102.out 2).trans rfl; have hfz19_0 := blk_frozen BK102.out 0; have hfz19_1 := blk_frozen BK102.out 1; have hfz19_2 := blk_frozen BK102.out 2))
          go_ret
          exact ⟨by first | rfl | (simp [errW_none, errW_some] <;> rfl) | (simp [*, errW_none, errW_some] <;> rfl), by repeat (first | (with_reducible first | exact HB.out | apply below_alloc | apply pw_below_drewN | apply below_drew1 | refine below_set ?_ GE102.out) | exact HB.out)⟩
        · rw [if_neg c17] at H
          have c17b0 : (a0_0 == 3) = false := beq_eq_false_iff_ne.mpr c17
          have c17b1 : (a0_0 != 3) = true := bne_iff_ne.mpr c17
          obtain rfl := Option.some.inj H
          go_enter Try.func73, Try.ntmps73
          go_wp2_with (first | ((with_reducible refine gate_dst (N := 1) rfl ?_); refine box_event ?hg (N := 1) ?hd (cs := #[.int .u8 a0_0, .int .i64 a0_1, .string a0_2]) (t := 39) ?hr ?_; (case hd => rfl); (case hg => rfl); (case hr => first | (go_simp; done) | (go_simp; rfl)); intro gb102 hg w20 hbox hb; have n0_ := Aside0.mk (below_step (by repeat (first | (with_reducible first | exact HB.out | apply below_alloc | apply pw_below_drewN | apply below_drew1) | exact HB.out)) hb); have n1_ := Aside0.mk (hbox); have n2_ := Aside0.mk ((by rw [hg]; exact (below_size (by repeat (first | (with_reducible first | exact HB.out | apply below_alloc | apply pw_below_drewN | apply below_drew1) | exact HB.out))) : w.heap.size ≤ gb102)); have n3_ := Aside0.mk ((by rw [hg]; exact (below_size (by repeat (first | (with_reducible first | exact HB.out | apply below_alloc | apply pw_below_drewN | apply below_drew1) | exact HB.out))) : w.heap.size ≤ gb102)); clear HB; have HB := n0_; have BK102 := n1_; have GW102 := n2_; have GE102 := n3_; clear n0_ n1_ n2_ n3_; clear hb hbox hg; have hcz21_0 : w20.cell? ⟨gb102, 0, none⟩ = some (.int .u8 a0_0) := (blk_cell BK102.out 0).trans rfl; have hcz21_1 : w20.cell? ⟨gb102, 1, none⟩ = some (.int .i64 a0_1) := (blk_cell BK102.out 1).trans rfl; have hcz21_2 : w20.cell? ⟨gb102, 2, none⟩ = some (.string a0_2) := (blk_cell BK102.out 2).trans rfl; have hfz21_0 := blk_frozen BK102.out 0; have hfz21_1 := blk_frozen BK102.out 1; have hfz21_2 := blk_frozen BK102.out 2))
          go_ret
          exact ⟨by first | rfl | (simp [errW_none, errW_some] <;> rfl) | (simp [*, errW_none, errW_some] <;> rfl), by repeat (first | (with_reducible first | exact HB.out | apply below_alloc | apply pw_below_drewN | apply below_drew1 | refine below_set ?_ GE102.out) | exact HB.out)⟩

end Go.Proofs.Ytlmcefhpnfoahaa.P
end

section
namespace Go.Proofs.Ytlmcefhpnfoahaa.P
open Go.RowKit Go.Proofs.YtlmcefhpnfoahaaW.PrintWords Go.Proofs.YtlmcefhpnfoahaaW.PrintLast Go.Proofs.YtlmcefhpnfoahaaW.PrintMore
set_option linter.unusedVariables false
set_option linter.unusedSimpArgs false

theorem may_of (x : S39) : key_may.f x.f0 x.f1 x.f2 = some (mayB x) := by
  unfold key_may.f mayB
  have e : ∀ l : List UInt8, (l == ([] : List UInt8)) = l.isEmpty := by intro l; cases l <;> rfl
  simp only [e]
  by_cases h0 : x.f0 = 0
  · simp [h0]
  · by_cases h1 : x.f0 = 1
    · rw [if_neg h0, if_pos h1]
      by_cases a : x.f1 = 0
      · simp [h1, a]
      · by_cases b : x.f1 = 1
        · simp [h1, b]
        · simp [h1, a, b]
    · by_cases h2 : x.f0 = 2
      · simp [h2]
      · by_cases h3 : x.f0 = 3
        · simp [h3]
        · rw [if_neg h0, if_neg h1, if_neg h2, if_neg h3]
          simp [h0, h1, h2, h3]
theorem may_kind {x : S39} (h : mayB x = true) : x.f0 = 0 ∨ x.f0 = 1 ∨ x.f0 = 2 ∨ x.f0 = 3 := by
  unfold mayB at h
  simp only [Bool.or_eq_true, Bool.and_eq_true, beq_iff_eq] at h
  omega
theorem take_last {α : Type} (l : List α) (k : Nat) (h : k < l.length) : ∃ r, l = l.take k ++ r := ⟨l.drop k, (List.take_append_drop k l).symm⟩
theorem all_may_no {l : List S39} {k : Nat} (h : k < l.length) (hm : mayB (rd_T39 l k) = false) : l.all mayB = false := by
  rw [List.all_eq_false]
  refine ⟨rd_T39 l k, ?_, by simp [hm]⟩
  unfold rd_T39
  rw [Int.toNat_natCast, List.getD_eq_getElem?_getD, List.getElem?_eq_getElem h]
  exact List.getElem_mem h

set_option maxRecDepth 100000 in
set_option maxHeartbeats 2000000 in
theorem key_Append.calls (A0 : Option Addr) (c0 : Nat) (l0 : List Int) (A1 : Option Addr) (c1 : Nat) (l1 : List S39) (r1 : List Int) (r2 : Int) (w : World) (hr0 : Kd.C (Kd.int .u8) w A0 l0.length l0) (hc0 : l0.length ≤ c0) (hr1 : Kd.C k39 w A1 l1.length l1) (hc1 : l1.length ≤ c1) (h : key_Append.f l0 l1 = some (r1, r2)) :
    Calls Try.prog 30 #[.slice A0 l0.length c0, .slice A1 l1.length c1] w fun e w' => ∃ v0_ : Value, e = .returned (.tuple #[v0_, .int .i64 r2]) ∧ Kd.R (Kd.int .u8) 5 w' w.heap.size (fun _ => True) v0_ r1 ∧ Below w.heap.size w w' := by
  unfold key_Append.f at h
  split at h
  case isFalse => cases h
  rename_i hcond
  obtain ⟨hlen, hnum⟩ := hcond
  have HR0 := Aside0.mk hr0
  have HR1 := Aside0.mk hr1
  have HM1 := Kd.C_max hr1
  have HN := Aside0.mk hnum
  have H := Aside0.mk (Option.some.inj h)
  clear hr0 hr1 hnum h
  go_enter Try.func30, Try.ntmps30
  go_wp2_with (first | (at_builtin; refine (Own.start (Kd.int .u8) 5 w).bytes rfl _ _ HR0.out rfl rfl rfl (by simp; omega) ?_; intro v1 w1 ho hg hat; have HO := Aside0.mk ho; clear ho hg hat))
  go_loopw [6, 16] (fun v6 v16 wr => ∃ k : Nat, k ≤ l1.length ∧ v16 = .int .i64 k ∧ Aside0 (∀ j : Nat, j < k → mayB (rd_T39 l1 j) = true) ∧ Aside0 (Own (Kd.int .u8) 5 w.heap.size w wr v6 (l0 ++ encR (l1.take k)))) (fun _ v16 _ => l1.length - (intOf v16).toNat)
  case atStart => exact ⟨0, Nat.zero_le _, rfl, ⟨fun j hj => absurd hj (Nat.not_lt_zero _)⟩, ⟨HO.out.of_cast (by simp [encR])⟩⟩
  case round =>
    clear HO
    obtain ⟨k, hk, rfl, HA, HO⟩ := hrel
    by_cases hlt : k < l1.length
    · obtain ⟨ad, e, hx0, hx1, hx2⟩ := at_T39 HR1.out k (by omega) (by omega)
      cases e
      have b0 := (HO.out.b.cell (World.block_lt_of_cell? w _ hx0)).trans hx0
      have b1 := (HO.out.b.cell (World.block_lt_of_cell? w _ hx1)).trans hx1
      have b2 := (HO.out.b.cell (World.block_lt_of_cell? w _ hx2)).trans hx2
      clear hx0 hx1 hx2
      rw [Int.toNat_natCast] at b0 b1 b2
      have M := Aside0.mk (may_of (rd_T39 l1 k))
      by_cases hm : mayB (rd_T39 l1 k) = true
      · rw [hm] at M
        have HA1 : Aside0 (∀ j : Nat, j < k + 1 → mayB (rd_T39 l1 j) = true) := ⟨fun j hj => by
          rcases Nat.lt_or_ge j k with h1 | h1
          · exact HA.out j h1
          · obtain rfl : j = k := by omega
            exact hm⟩
        have HE := Aside0.mk (encR_snoc l1 k hlt)
        have LK1 := encR_take_le l1 (k + 1)
        rw [HE.out, List.length_append] at LK1
        have HK := Aside0.mk (may_kind hm)
        have HNk : okNum (rd_T39 l1 k) = true := by
          have := HN.out
          rw [List.all_eq_true] at this
          refine this _ ?_
          unfold rd_T39
          rw [Int.toNat_natCast, List.getD_eq_getElem?_getD, List.getElem?_eq_getElem hlt]
          exact List.getElem_mem hlt
        have HNK := Aside0.mk HNk
        clear HNk hm HA
        generalize rd_T39 l1 k = x at *
        have hL : (l0 ++ encR (l1.take k)).length + (encV x).length ≤ 70368744177664 := by rw [List.length_append]; omega
        have HE2 : Aside0 (l0 ++ encR (l1.take (k + 1)) = (l0 ++ encR (l1.take k)) ++ encV x) := ⟨by rw [HE.out, List.append_assoc]⟩
        clear HE LK1
        generalize l0 ++ encR (l1.take k) = L at *
        rcases HK.out with t | t | t | t
        all_goals clear HK
        · have T0 : (x.f0 == 0) = true := by simp [t]
          have hE : Aside0 (L ++ [1] = l0 ++ encR (l1.take (k + 1))) := ⟨by rw [HE2.out]; simp [encV, t]⟩
          have hl : L.length + 1 ≤ 140737488355328 := by omega
          clear t HE2
          go_wp2_with (first
            | (go_at_call 73; refine (key_may.calls _ _ _ true _ M.out).mono ?_; rintro e w' ⟨rfl, hb'⟩; have BX := Aside0.mk ((Box.made HO.out #[.int .u8 x.f0, .int .i64 x.f1, .string x.f2] 39).step hb'); have q0 := BX.out.cell 0 rfl; have HO1 := Aside0.mk ((HO.out.alloc _).step hb'); clear hb' HO; have HO := HO1; clear HO1)
            | (at_builtin; refine HO.out.byte rfl _ _ _ rfl rfl rfl hl ?_; intro v1 w1 ho hg hat; have HO1 := Aside0.mk ho; clear ho hg hat q0 HO BX; have HO := HO1; clear HO1))
          go_roundw
          case rel => exact ⟨k + 1, by omega, by go_num, HA1, ⟨HO.out.of_cast hE.out⟩⟩
          case measure => simp [intOf]; omega
        · have T0 : (x.f0 == 0) = false := by simp [t]
          have T1 : (x.f0 == 1) = true := by simp [t]
          have hE : Aside0 (L ++ [2, x.f1 % 256] = l0 ++ encR (l1.take (k + 1))) := ⟨by rw [HE2.out]; simp [encV, t]⟩
          have hl : L.length + 2 ≤ 140737488355328 := by omega
          clear t HE2
          go_wp2_with (first
            | (go_at_call 73; refine (key_may.calls _ _ _ true _ M.out).mono ?_; rintro e w' ⟨rfl, hb'⟩; have BX := Aside0.mk ((Box.made HO.out #[.int .u8 x.f0, .int .i64 x.f1, .string x.f2] 39).step hb'); have q0 := BX.out.cell 0 rfl; have q1 := BX.out.cell 1 rfl; have HO1 := Aside0.mk ((HO.out.alloc _).step hb'); clear hb' HO; have HO := HO1; clear HO1)
            | (at_builtin; refine HO.out.byte2 rfl _ _ _ _ rfl rfl rfl hl ?_; intro v1 w1 ho hg hat; have HO1 := Aside0.mk ho; clear ho hg hat q0 q1 HO BX; have HO := HO1; clear HO1))
          go_roundw
          case rel => exact ⟨k + 1, by omega, by go_num, HA1, ⟨HO.out.of_cast hE.out⟩⟩
          case measure => simp [intOf]; omega
        · have T0 : (x.f0 == 0) = false := by simp [t]
          have T1 : (x.f0 == 1) = false := by simp [t]
          have T2 : (x.f0 == 2) = true := by simp [t]
          have hE : Aside0 (L ++ [3] ++ be8 x.f1 = l0 ++ encR (l1.take (k + 1))) := ⟨by rw [HE2.out]; simp [encV, t]⟩
          have hX : Aside0 (bits .xor .u64 (IntKind.u64.wrap x.f1) 9223372036854775808 = x.f1 + 9223372036854775808) := ⟨by
            have h1 := HNK.out
            unfold okNum at h1
            simp only [Bool.and_eq_true, decide_eq_true_eq] at h1
            exact xor_top _ h1.1 h1.2⟩
          have hl : L.length + 1 ≤ 140737488355328 := by omega
          have hl9 : L.length + 9 ≤ 140737488355328 := by omega
          clear t HE2
          go_wp2_with (first
            | (go_at_call 73; refine (key_may.calls _ _ _ true _ M.out).mono ?_; rintro e w' ⟨rfl, hb'⟩; have BX := Aside0.mk ((Box.made HO.out #[.int .u8 x.f0, .int .i64 x.f1, .string x.f2] 39).step hb'); have q0 := BX.out.cell 0 rfl; have HO1 := Aside0.mk ((HO.out.alloc _).step hb'); clear hb' HO; have HO := HO1; clear HO1)
            | (at_builtin; refine HO.out.byte rfl _ _ _ rfl rfl rfl hl ?_; intro v1 w1 ho hg hat; have BX1 := Aside0.mk ((BX.out.alloc _).app hg hat); have HO1 := Aside0.mk ho; clear ho hg hat q0 HO BX; have HO := HO1; have BX := BX1; clear HO1 BX1))
          go_loopw [6, 9] (fun v6 v9 W => ∃ j : Nat, j ≤ 8 ∧ v9 = .int .i64 (56 - 8 * j) ∧ Aside0 (Own (Kd.int .u8) 5 w.heap.size w W v6 (L ++ [3] ++ (be8 x.f1).take j)) ∧ Aside0 (Box W wr.heap.size #[.int .u8 x.f0, .int .i64 x.f1, .string x.f2] 39 (0, 0) v6)) (fun _ v9 _ => (intOf v9 + 8).toNat)
          case atStart => exact ⟨0, by omega, rfl, ⟨HO.out.of_cast (by simp)⟩, BX⟩
          case round =>
            clear HO BX
            obtain ⟨j, hj, rfl, HO, BX⟩ := hrel
            by_cases hj8 : j < 8
            · have q1 := BX.out.cell 1 rfl
              have t8 : (8 * (j : Int)) ≤ 56 := by omega
              have hl2 : (L ++ [3] ++ (be8 x.f1).take j).length + 1 ≤ 140737488355328 := by
                rw [List.length_append, List.length_append, List.length_take, be8_length, List.length_singleton]; omega
              go_wp2_with (at_builtin; refine HO.out.byte rfl _ _ _ rfl rfl rfl hl2 ?_; intro v1 w1 ho hg hat; have BX1 := Aside0.mk ((BX.out.alloc _).app hg hat); have HO1 := Aside0.mk ho; clear ho hg hat q1 HO BX; have HO := HO1; have BX := BX1; clear HO1 BX1)
              go_roundw
              case rel => exact ⟨j + 1, by omega, by go_num, ⟨HO.out.of_cast (by rw [hX.out, be8_take _ _ hj8, List.append_assoc])⟩, BX⟩
              case measure => simp [intOf]; omega
            · obtain rfl : j = 8 := by omega
              go_wp2_with fail
              go_roundw
              case rel => exact ⟨k + 1, by omega, by go_num, HA1, ⟨HO.out.of_cast (by rw [← hE.out]; rfl)⟩⟩
              case measure => simp [intOf]; omega
        · have T0 : (x.f0 == 0) = false := by simp [t]
          have T1 : (x.f0 == 1) = false := by simp [t]
          have T2 : (x.f0 == 2) = false := by simp [t]
          have hE : Aside0 (L ++ [4] ++ esc (bytesOf x.f2) ++ [0, 1] = l0 ++ encR (l1.take (k + 1))) := ⟨by rw [HE2.out]; simp [encV, t]⟩
          have hl : L.length + 1 ≤ 140737488355328 := by omega
          have hle : L.length + 3 + (esc (bytesOf x.f2)).length ≤ 70368744177664 := by
            have : (encV x).length = (esc (bytesOf x.f2)).length + 3 := by simp [encV, t]
            omega
          have hb0 := esc_ge (bytesOf x.f2)
          rw [bytesOf_length] at hb0
          have kc := conv_bytes x.f2
          have HLE := Aside0.mk hle
          have hsz : x.f2.size ≤ 70368744177664 := by omega
          clear t HE2 hb0 hle
          go_wp2_with (first
            | (go_at_call 73; refine (key_may.calls _ _ _ true _ M.out).mono ?_; rintro e w' ⟨rfl, hb'⟩; have BX := Aside0.mk ((Box.made HO.out #[.int .u8 x.f0, .int .i64 x.f1, .string x.f2] 39).step hb'); have q0 := BX.out.cell 0 rfl; have q2 := BX.out.cell 2 rfl; have HO1 := Aside0.mk ((HO.out.alloc _).step hb'); clear hb' HO; have HO := HO1; clear HO1)
            | (at_builtin; refine HO.out.byte rfl _ _ _ rfl rfl rfl hl ?_; intro v1 w1 ho hg hat; have BX1 := Aside0.mk ((BX.out.alloc _).app hg hat); have HO1 := Aside0.mk ho; clear ho hg hat q0 q2 HO BX; have HO := HO1; have BX := BX1; have q2 := BX.out.cell 2 rfl; clear HO1 BX1))
          have BY := Aside0.mk (Box.conv HO.out x.f2)
          have HO1 := Aside0.mk (HO.out.bytesWorld x.f2)
          have HC := Aside0.mk (bytesCells_at w1 x.f2)
          clear HO BX q2
          have HO := HO1
          clear HO1
          generalize Lib.bytesCells w1 5 x.f2 = C at *
          go_loopw [6, 32] (fun v6 v32 W => ∃ j : Nat, j ≤ x.f2.size ∧ v32 = .int .i64 j ∧ Aside0 (Own (Kd.int .u8) 5 w.heap.size w W v6 (L ++ [4] ++ esc ((bytesOf x.f2).take j))) ∧ Aside0 (Box W w1.heap.size C 5 (C.size, C.size + 1) v6)) (fun _ v32 _ => x.f2.size - (intOf v32).toNat)
          case atStart => exact ⟨0, by omega, rfl, ⟨HO.out.of_cast (by simp [esc])⟩, BY⟩
          case round =>
            clear HO BY kc
            obtain ⟨j, hj, rfl, HO, BY⟩ := hrel
            have hl2 : (L ++ [4] ++ esc ((bytesOf x.f2).take j)).length + 3 ≤ 140737488355328 := by
              have := esc_take_le (bytesOf x.f2) j
              have := HLE.out
              rw [List.length_append, List.length_append, List.length_singleton]; omega
            by_cases hjs : j < x.f2.size
            · have q := BY.out.cell j (HC.out j hjs)
              have hs := esc_snoc (bytesOf x.f2) j (by rw [bytesOf_length]; exact hjs)
              by_cases hz : rd (bytesOf x.f2) j = 0
              · have Z : (rd (bytesOf x.f2) j == 0) = true := by simp [hz]
                have hs2 : Aside0 (esc ((bytesOf x.f2).take (j + 1)) = esc ((bytesOf x.f2).take j) ++ [rd (bytesOf x.f2) j, 255]) := ⟨by rw [hs, if_pos hz]⟩
                clear hs hz
                have hl3 : (L ++ [4] ++ esc ((bytesOf x.f2).take j)).length + 1 ≤ 140737488355328 := by omega
                have hl4 : (L ++ [4] ++ esc ((bytesOf x.f2).take j) ++ [rd (bytesOf x.f2) j]).length + 1 ≤ 140737488355328 := by rw [List.length_append, List.length_singleton]; omega
                go_wp2_with (at_builtin; refine HO.out.byte rfl _ _ _ rfl rfl rfl (by first | exact hl3 | exact hl4) ?_; intro v1 w1 ho hg hat; have BX1 := Aside0.mk ((BY.out.alloc _).app hg hat); have HO1 := Aside0.mk ho; clear ho hg hat HO BY; have HO := HO1; have BY := BX1; clear HO1 BX1)
                go_roundw
                case rel => exact ⟨j + 1, by omega, by go_num, ⟨HO.out.of_cast (by rw [hs2.out]; simp)⟩, BY⟩
                case measure => simp [intOf]; omega
              · have Z : (rd (bytesOf x.f2) j == 0) = false := by simp [hz]
                have hs2 : Aside0 (esc ((bytesOf x.f2).take (j + 1)) = esc ((bytesOf x.f2).take j) ++ [rd (bytesOf x.f2) j]) := ⟨by rw [hs, if_neg hz]⟩
                clear hs hz
                have hl3 : (L ++ [4] ++ esc ((bytesOf x.f2).take j)).length + 1 ≤ 140737488355328 := by omega
                go_wp2_with (at_builtin; refine HO.out.byte rfl _ _ _ rfl rfl rfl hl3 ?_; intro v1 w1 ho hg hat; have BX1 := Aside0.mk ((BY.out.alloc _).app hg hat); have HO1 := Aside0.mk ho; clear ho hg hat HO BY; have HO := HO1; have BY := BX1; clear HO1 BX1)
                go_roundw
                case rel => exact ⟨j + 1, by omega, by go_num, ⟨HO.out.of_cast (by rw [hs2.out]; simp)⟩, BY⟩
                case measure => simp [intOf]; omega
            · obtain rfl : j = x.f2.size := by omega
              have hl3 : (L ++ [4] ++ esc ((bytesOf x.f2).take x.f2.size)).length + 2 ≤ 140737488355328 := by omega
              go_wp2_with (at_builtin; refine HO.out.byte2 rfl _ _ _ _ rfl rfl rfl hl3 ?_; intro v1 w1 ho hg hat; have HO1 := Aside0.mk ho; clear ho hg hat HO BY; have HO := HO1; clear HO1)
              go_roundw
              case rel => exact ⟨k + 1, by omega, by go_num, HA1, ⟨HO.out.of_cast (by rw [← hE.out, ← bytesOf_length, List.take_length])⟩⟩
              case measure => simp [intOf]; omega
      · have hm' : mayB (rd_T39 l1 k) = false := by simpa using hm
        rw [hm'] at M
        have hf := H.out
        rw [all_may_no hlt hm'] at hf
        simp only [Bool.false_eq_true, if_false, Prod.mk.injEq] at hf
        obtain ⟨rfl, rfl⟩ := hf
        clear hm hm' HA H
        go_wp2_with (go_at_call 73; refine (key_may.calls _ _ _ false _ M.out).mono ?_; rintro e w' ⟨rfl, hb'⟩; have HO1 := Aside0.mk ((HO.out.alloc _).step hb'); clear hb' HO; have HO := HO1; clear HO1)
        go_ret2
        exact ⟨_, rfl, Kd.R_nil _ _ _ _ _, HO.out.b⟩
    · obtain rfl : k = l1.length := by omega
      have ha : l1.all mayB = true := by
        rw [List.all_eq_true]
        intro y hy
        obtain ⟨j, hj, rfl⟩ := List.getElem_of_mem hy
        have := HA.out j hj
        unfold rd_T39 at this
        rwa [Int.toNat_natCast, List.getD_eq_getElem?_getD, List.getElem?_eq_getElem hj] at this
      have hf := H.out
      rw [if_pos ha] at hf
      simp only [Prod.mk.injEq] at hf
      obtain ⟨rfl, rfl⟩ := hf
      have HO1 := Aside0.mk (HO.out.of_cast (ys := l0 ++ encR l1) (by rw [List.take_length]))
      clear ha HA H HO
      go_wp2_with fail
      go_ret2
      exact ⟨_, rfl, HO1.out.r, HO1.out.b⟩
end Go.Proofs.Ytlmcefhpnfoahaa.P
end

section
namespace Go.Proofs.Ytlmcefhpnfoahaa.P
open Go.RowKit Go.Proofs.YtlmcefhpnfoahaaW.PrintWords Go.Proofs.YtlmcefhpnfoahaaW.PrintLast Go.Proofs.YtlmcefhpnfoahaaW.PrintMore
attribute [local go_sem] max2_int min2_int max_two min_two max_three min_three max_four min_four   -- for this text's walks alone
set_option linter.unusedVariables false
set_option linter.unusedSimpArgs false

/-! ### row_may: function 85 -/
def row_may.f (a0 : Int) (a1_0 : Int) (a1_1 : Int) (a1_2 : ByteArray) : Option (Bool) := (key_Append.f ([] : List Int) (([(⟨a1_0, a1_1, a1_2⟩ : S39)] : List (S39)))).bind fun bt385 => (if bt385.2 = 0 then (if a1_0 = 0 then (some true) else (some (a1_0 == a0))) else (some false))
set_option maxHeartbeats 8000000 in
set_option maxRecDepth 100000 in
theorem row_may.calls (a0 : Int) (a1_0 : Int) (a1_1 : Int) (a1_2 : ByteArray) (r : Bool) (w : World) (h : row_may.f a0 a1_0 a1_1 a1_2 = some r) :
    Calls Try.prog 85 #[.int .u8 a0, .agg #[.int .u8 a1_0, .int .i64 a1_1, .string a1_2]] w fun e w' => e = .returned (.bool r) ∧ Below w.heap.size w w' := by
  have hu39 := Try.underlying39
  have HB := Aside0.mk (Below.refl w.heap.size w)
  have H : ((key_Append.f ([] : List Int) (([(⟨a1_0, a1_1, a1_2⟩ : S39)] : List (S39)))).bind fun bt385 => (if bt385.2 = 0 then (if a1_0 = 0 then (some true) else (some (a1_0 == a0))) else (some false))) = some r := h
  clear h
  obtain ⟨y382, hy382⟩ : ∃ y_ : List (S39), y_ = (([(⟨a1_0, a1_1, a1_2⟩ : S39)] : List (S39))) := ⟨_, rfl⟩
  replace H : ((key_Append.f ([] : List Int) y382).bind fun bt385 => (if bt385.2 = 0 then (if a1_0 = 0 then (some true) else (some (a1_0 == a0))) else (some false))) = some r := by first | (rw [hy382]; with_reducible exact H) | (have H2_ := (Option.bind_some _ _).symm.trans H; rw [hy382]; with_reducible exact H2_) | (have H2_ := (Option.bind_some _ _).symm.trans H; with_reducible exact H2_) | with_reducible exact H | (rw [hy382]; exact H) | exact H
  have Ny382 := Aside0.mk hy382
  clear hy382
  replace H := Option.bind_eq_some_iff.mp H
  obtain ⟨⟨t385, t386⟩, A30, H⟩ := H
  replace H : (if t386 = 0 then (if a1_0 = 0 then (some true) else (some (a1_0 == a0))) else (some false)) = some r := H
  have A3 := Aside0.mk A30
  clear A30
  by_cases c4 : t386 = 0
  · rw [if_pos c4] at H
    have c4b0 : (t386 == 0) = true := beq_iff_eq.mpr c4
    have c4b1 : (t386 != 0) = false := bne_eq_false_iff_eq.mpr c4
    clear c4
    by_cases c5 : a1_0 = 0
    · rw [if_pos c5] at H
      have c5b0 : (a1_0 == 0) = true := beq_iff_eq.mpr c5
      have c5b1 : (a1_0 != 0) = false := bne_eq_false_iff_eq.mpr c5
      clear c5
      obtain rfl := Option.some.inj H
      go_enter Try.func85, Try.ntmps85
      go_wp2_with (first | ((with_reducible refine gate_dst (N := 3) rfl ?_); refine box_event ?hg (N := 3) ?hd (cs := #[.int .u8 a1_0, .int .i64 a1_1, .string a1_2]) (t := 39) ?hr ?_; (case hd => rfl); (case hg => rfl); (case hr => first | (go_simp; done) | (go_simp; rfl)); intro gb381 hg w6 hbox hb; have n0_ := Aside0.mk (below_step (by repeat (first | (with_reducible first | exact HB.out | apply below_alloc | apply pw_below_drewN | apply below_drew1) | exact HB.out)) hb); have n1_ := Aside0.mk (hbox); have n2_ := Aside0.mk ((by rw [hg]; exact (below_size (by repeat (first | (with_reducible first | exact HB.out | apply below_alloc | apply pw_below_drewN | apply below_drew1) | exact HB.out))) : w.heap.size ≤ gb381)); have n3_ := Aside0.mk ((by rw [hg]; exact (below_size (by repeat (first | (with_reducible first | exact HB.out | apply below_alloc | apply pw_below_drewN | apply below_drew1) | exact HB.out))) : w.heap.size ≤ gb381)); clear HB; have HB := n0_; have BK381 := n1_; have GW381 := n2_; have GE381 := n3_; clear n0_ n1_ n2_ n3_; clear hb hbox hg; have hcz7_0 : w6.cell? ⟨gb381, 0, none⟩ = some (.int .u8 a1_0) := (blk_cell BK381.out 0).trans rfl; have hcz7_1 : w6.cell? ⟨gb381, 1, none⟩ = some (.int .i64 a1_1) := (blk_cell BK381.out 1).trans rfl; have hcz7_2 : w6.cell? ⟨gb381, 2, none⟩ = some (.string a1_2) := (blk_cell BK381.out 2).trans rfl; have hfz7_0 := blk_frozen BK381.out 0; have hfz7_1 := blk_frozen BK381.out 1; have hfz7_2 := blk_frozen BK381.out 2) | ((with_reducible refine gate_dst (N := 9) rfl ?_); refine Kd.R_lit k39 _ 39 ?hg (N := 9) ?hd (xs := ([(⟨a1_0, a1_1, a1_2⟩ : S39)] : List (S39))) (inner := [.int .u8 a1_0, .int .i64 a1_1, .string a1_2]) (ok := fun _ => True) (okp := fun _ => True) ?hr ?hp (fun _ hk => hk) trivial (Below.refl _ _) (Nat.le_refl _) (by simp) ?_; (case hd => rfl); (case hg => rfl); (case hr => first | (go_simp; done) | (go_simp; rfl)); (case hp => exact (Reps.c3 (show Kd.M k39 _ _ _ (⟨a1_0, a1_1, a1_2⟩ : S39) [.int .u8 a1_0, .int .i64 a1_1, .string a1_2] from (k39_mkM _ _ _ (⟨a1_0, a1_1, a1_2⟩ : S39) )) (Reps.none _ _))); intro v383 w8 ho9 hb hg_ hnew_; clear hg_ hnew_; (first | rw [← Ny382.out] at ho9 | (simp only [Int.reduceToNat] at ho9; rw [← Ny382.out] at ho9)); have n0_ := Aside0.mk (Kd.R_lower (Kd.R_newB ho9 (g := gb381) (o := .cells #[.int .u8 a1_0, .int .i64 a1_1, .string a1_2] 39 (0, 0)) (by (with_reducible repeat (first | refine blk_drewN ?_ _ | refine blk_drew ?_ | refine blk_alloc ?_ _)); exact BK381.out)) (below_size (by repeat (first | (with_reducible first | exact HB.out | apply below_alloc | apply pw_below_drewN | apply below_drew1 | refine below_set ?_ GE381.out) | exact HB.out)))); have n1_ := Aside0.mk (blk_below (g := gb381) (o := .cells #[.int .u8 a1_0, .int .i64 a1_1, .string a1_2] 39 (0, 0)) (by (with_reducible repeat (first | refine blk_drewN ?_ _ | refine blk_drew ?_ | refine blk_alloc ?_ _)); exact BK381.out) hb); have n2_ := Aside0.mk (below_step (by repeat (first | (with_reducible first | exact HB.out | apply below_alloc | apply pw_below_drewN | apply below_drew1 | refine below_set ?_ GE381.out) | exact HB.out)) hb); clear BK381; clear HB; have HO384 := n0_; have BK381 := n1_; have HB := n2_; clear n0_ n1_ n2_; clear hb ho9; obtain ⟨Ao10, co10, eo10⟩ := Kd.R_slice HO384.out; subst eo10) | ((with_reducible refine gate_callee (f := 30) rfl ?_); refine goesL_ (some 10) rfl rfl Try.func30 (by kernel_rfl) rfl #[.slice none 0 0, .slice Ao10 y382.length co10] rfl (by (try simp only [List.map_toArray, List.map_cons, List.map_nil]); first | done | rfl | (simp only [List.length_drop, List.length_take]; rfl)) ?_; (refine (key_Append.calls _ _ ([] : List Int) _ _ y382 t385 t386 _ ?side1 ?side2 ?side3 ?side4 A3.out).mono ?_); (case side1 => exact Kd.C_nil _ _); (case side2 => exact Nat.le_refl _); (case side3 => repeat (first | exact (Kd.R_reads' HO384.out).2.2 | (with_reducible refine Kd.C_alloc ?_ _) | (with_reducible refine Kd.C_drewN ?_ _) | (with_reducible refine Kd.C_drew ?_))); (case side4 => exact (Kd.R_reads' HO384.out).2.1); rintro e w11 ⟨v387, rfl, ho0, hb⟩; refine ⟨_, rfl, ?_⟩; have n0_ := Aside0.mk (Kd.R_below (by (with_reducible repeat (first | apply Kd.R_alloc | apply Kd.R_drewN | apply Kd.R_drew)); exact HO384.out) hb); have n1_ := Aside0.mk (Kd.R_lower ho0 (below_size (by repeat (first | (with_reducible first | exact HB.out | apply below_alloc | apply pw_below_drewN | apply below_drew1 | refine below_set ?_ GE381.out) | exact HB.out)))); have n2_ := Aside0.mk (blk_below (g := gb381) (o := .cells #[.int .u8 a1_0, .int .i64 a1_1, .string a1_2] 39 (0, 0)) (by (with_reducible repeat (first | refine blk_drewN ?_ _ | refine blk_drew ?_ | refine blk_alloc ?_ _)); exact BK381.out) hb); have n3_ := Aside0.mk (below_step (by repeat (first | (with_reducible first | exact HB.out | apply below_alloc | apply pw_below_drewN | apply below_drew1 | refine below_set ?_ GE381.out) | exact HB.out)) hb); clear HO384; clear BK381; clear HB; have HO384 := n0_; have HO388 := n1_; have BK381 := n2_; have HB := n3_; clear n0_ n1_ n2_ n3_; (try clear hb); (try clear hb2); (try clear hk); (try clear hi); (try clear ho0); have hcz12_0 : w11.cell? ⟨gb381, 0, none⟩ = some (.int .u8 a1_0) := (blk_cell BK381.out 0).trans rfl; have hcz12_1 : w11.cell? ⟨gb381, 1, none⟩ = some (.int .i64 a1_1) := (blk_cell BK381.out 1).trans rfl; have hcz12_2 : w11.cell? ⟨gb381, 2, none⟩ = some (.string a1_2) := (blk_cell BK381.out 2).trans rfl; have hfz12_0 := blk_frozen BK381.out 0; have hfz12_1 := blk_frozen BK381.out 1; have hfz12_2 := blk_frozen BK381.out 2))
      go_ret
      exact ⟨by first | rfl | (simp [errW_none, errW_some] <;> rfl) | (simp [*, errW_none, errW_some] <;> rfl), by repeat (first | (with_reducible first | exact HB.out | apply below_alloc | apply pw_below_drewN | apply below_drew1 | refine below_set ?_ GE381.out) | exact HB.out)⟩
    · rw [if_neg c5] at H
      have c5b0 : (a1_0 == 0) = false := beq_eq_false_iff_ne.mpr c5
      have c5b1 : (a1_0 != 0) = true := bne_iff_ne.mpr c5
      obtain rfl := Option.some.inj H
      go_enter Try.func85, Try.ntmps85
      go_wp2_with (first | ((with_reducible refine gate_dst (N := 3) rfl ?_); refine box_event ?hg (N := 3) ?hd (cs := #[.int .u8 a1_0, .int .i64 a1_1, .string a1_2]) (t := 39) ?hr ?_; (case hd => rfl); (case hg => rfl); (case hr => first | (go_simp; done) | (go_simp; rfl)); intro gb381 hg w13 hbox hb; have n0_ := Aside0.mk (below_step (by repeat (first | (with_reducible first | exact HB.out | apply below_alloc | apply pw_below_drewN | apply below_drew1) | exact HB.out)) hb); have n1_ := Aside0.mk (hbox); have n2_ := Aside0.mk ((by rw [hg]; exact (below_size (by repeat (first | (with_reducible first | exact HB.out | apply below_alloc | apply pw_below_drewN | apply below_drew1) | exact HB.out))) : w.heap.size ≤ gb381)); have n3_ := Aside0.mk ((by rw [hg]; exact (below_size (by repeat (first | (with_reducible first | exact HB.out | apply below_alloc | apply pw_below_drewN | apply below_drew1) | exact HB.out))) : w.heap.size ≤ gb381)); clear HB; have HB := n0_; have BK381 := n1_; have GW381 := n2_; have GE381 := n3_; clear n0_ n1_ n2_ n3_; clear hb hbox hg; have hcz14_0 : w13.cell? ⟨gb381, 0, none⟩ = some (.int .u8 a1_0) := (blk_cell BK381.out 0).trans rfl; have hcz14_1 : w13.cell? ⟨gb381, 1, none⟩ = some (.int .i64 a1_1) := (blk_cell BK381.out 1).trans rfl; have hcz14_2 : w13.cell? ⟨gb381, 2, none⟩ = some (.string a1_2) := (blk_cell BK381.out 2).trans rfl; have hfz14_0 := blk_frozen BK381.out 0; have hfz14_1 := blk_frozen BK381.out 1; have hfz14_2 := blk_frozen BK381.out 2) | ((with_reducible refine gate_dst (N := 9) rfl ?_); refine Kd.R_lit k39 _ 39 ?hg (N := 9) ?hd (xs := ([(⟨a1_0, a1_1, a1_2⟩ : S39)] : List (S39))) (inner := [.int .u8 a1_0, .int .i64 a1_1, .string a1_2]) (ok := fun _ => True) (okp := fun _ => True) ?hr ?hp (fun _ hk => hk) trivial (Below.refl _ _) (Nat.le_refl _) (by simp) ?_; (case hd => rfl); (case hg => rfl); (case hr => first | (go_simp; done) | (go_simp; rfl)); (case hp => exact (Reps.c3 (show Kd.M k39 _ _ _ (⟨a1_0, a1_1, a1_2⟩ : S39) [.int .u8 a1_0, .int .i64 a1_1, .string a1_2] from (k39_mkM _ _ _ (⟨a1_0, a1_1, a1_2⟩ : S39) )) (Reps.none _ _))); intro v383 w15 ho16 hb hg_ hnew_; clear hg_ hnew_; (first | rw [← Ny382.out] at ho16 | (simp only [Int.reduceToNat] at ho16; rw [← Ny382.out] at ho16)); have n0_ := Aside0.mk (Kd.R_lower (Kd.R_newB ho16 (g := gb381) (o := .cells #[.int .u8 a1_0, .int .i64 a1_1, .string a1_2] 39 (0, 0)) (by (with_reducible repeat (first | refine blk_drewN ?_ _ | refine blk_drew ?_ | refine blk_alloc ?_ _)); exact BK381.out)) (below_size (by repeat (first | (with_reducible first | exact HB.out | apply below_alloc | apply pw_below_drewN | apply below_drew1 | refine below_set ?_ GE381.out) | exact HB.out)))); have n1_ := Aside0.mk (blk_below (g := gb381) (o := .cells #[.int .u8 a1_0, .int .i64 a1_1, .string a1_2] 39 (0, 0)) (by (with_reducible repeat (first | refine blk_drewN ?_ _ | refine blk_drew ?_ | refine blk_alloc ?_ _)); exact BK381.out) hb); have n2_ := Aside0.mk (below_step (by repeat (first | (with_reducible first | exact HB.out | apply below_alloc | apply pw_below_drewN | apply below_drew1 | refine below_set ?_ GE381.out) | exact HB.out)) hb); clear BK381; clear HB; have HO384 := n0_; have BK381 := n1_; have HB := n2_; clear n0_ n1_ n2_; clear hb ho16; obtain ⟨Ao17, co17, eo17⟩ := Kd.R_slice HO384.out; subst eo17) | ((with_reducible refine gate_callee (f := 30) rfl ?_); refine goesL_ (some 10) rfl rfl Try.func30 (by kernel_rfl) rfl #[.slice none 0 0, .slice Ao17 y382.length co17] rfl (by (try simp only [List.map_toArray, List.map_cons, List.map_nil]); first | done | rfl | (simp only [List.length_drop, List.length_take]; rfl)) ?_; (refine (key_Append.calls _ _ ([] : List Int) _ _ y382 t385 t386 _ ?side1 ?side2 ?side3 ?side4 A3.out).mono ?_); (case side1 => exact Kd.C_nil _ _); (case side2 => exact Nat.le_refl _); (case side3 => repeat (first | exact (Kd.R_reads' HO384.out).2.2 | (with_reducible refine Kd.C_alloc ?_ _) | (with_reducible refine Kd.C_drewN ?_ _) | (with_reducible refine Kd.C_drew ?_))); (case side4 => exact (Kd.R_reads' HO384.out).2.1); rintro e w18 ⟨v387, rfl, ho0, hb⟩; refine ⟨_, rfl, ?_⟩; have n0_ := Aside0.mk (Kd.R_below (by (with_reducible repeat (first | apply Kd.R_alloc | apply Kd.R_drewN | apply Kd.R_drew)); exact HO384.out) hb); have n1_ := Aside0.mk (Kd.R_lower ho0 (below_size (by repeat (first | (with_reducible first | exact HB.out | apply below_alloc | apply pw_below_drewN | apply below_drew1 | refine below_set ?_ GE381.out) | exact HB.out)))); have n2_ := Aside0.mk (blk_below (g := gb381) (o := .cells #[.int .u8 a1_0, .int .i64 a1_1, .string a1_2] 39 (0, 0)) (by (with_reducible repeat (first | refine blk_drewN ?_ _ | refine blk_drew ?_ | refine blk_alloc ?_ _)); exact BK381.out) hb); have n3_ := Aside0.mk (below_step (by repeat (first | (with_reducible first | exact HB.out | apply below_alloc | apply pw_below_drewN | apply below_drew1 | refine below_set ?_ GE381.out) | exact HB.out)) hb); clear HO384; clear BK381; clear HB; have HO384 := n0_; have HO388 := n1_; have BK381 := n2_; have HB := n3_; clear n0_ n1_ n2_ n3_; (try clear hb); (try clear hb2); (try clear hk); (try clear hi); (try clear ho0); have hcz19_0 : w18.cell? ⟨gb381, 0, none⟩ = some (.int .u8 a1_0) := (blk_cell BK381.out 0).trans rfl; have hcz19_1 : w18.cell? ⟨gb381, 1, none⟩ = some (.int .i64 a1_1) := (blk_cell BK381.out 1).trans rfl; have hcz19_2 : w18.cell? ⟨gb381, 2, none⟩ = some (.string a1_2) := (blk_cell BK381.out 2).trans rfl; have hfz19_0 := blk_frozen BK381.out 0; have hfz19_1 := blk_frozen BK381.out 1; have hfz19_2 := blk_frozen BK381.out 2))
      go_ret
      exact ⟨by first | rfl | (simp [errW_none, errW_some] <;> rfl) | (simp [*, errW_none, errW_some] <;> rfl), by repeat (first | (with_reducible first | exact HB.out | apply below_alloc | apply pw_below_drewN | apply below_drew1 | refine below_set ?_ GE381.out) | exact HB.out)⟩
  · rw [if_neg c4] at H
    have c4b0 : (t386 == 0) = false := beq_eq_false_iff_ne.mpr c4
    have c4b1 : (t386 != 0) = true := bne_iff_ne.mpr c4
    obtain rfl := Option.some.inj H
    go_enter Try.func85, Try.ntmps85
    go_wp2_with (first | ((with_reducible refine gate_dst (N := 3) rfl ?_); refine box_event ?hg (N := 3) ?hd (cs := #[.int .u8 a1_0, .int .i64 a1_1, .string a1_2]) (t := 39) ?hr ?_; (case hd => rfl); (case hg => rfl); (case hr => first | (go_simp; done) | (go_simp; rfl)); intro gb381 hg w20 hbox hb; have n0_ := Aside0.mk (below_step (by repeat (first | (with_reducible first | exact HB.out | apply below_alloc | apply pw_below_drewN | apply below_drew1) | exact HB.out)) hb); have n1_ := Aside0.mk (hbox); have n2_ := Aside0.mk ((by rw [hg]; exact (below_size (by repeat (first | (with_reducible first | exact HB.out | apply below_alloc | apply pw_below_drewN | apply below_drew1) | exact HB.out))) : w.heap.size ≤ gb381)); have n3_ := Aside0.mk ((by rw [hg]; exact (below_size (by repeat (first | (with_reducible first | exact HB.out | apply below_alloc | apply pw_below_drewN | apply below_drew1) | exact HB.out))) : w.heap.size ≤ gb381)); clear HB; have HB := n0_; have BK381 := n1_; have GW381 := n2_; have GE381 := n3_; clear n0_ n1_ n2_ n3_; clear hb hbox hg; have hcz21_0 : w20.cell? ⟨gb381, 0, none⟩ = some (.int .u8 a1_0) := (blk_cell BK381.out 0).trans rfl; have hcz21_1 : w20.cell? ⟨gb381, 1, none⟩ = some (.int .i64 a1_1) := (blk_cell BK381.out 1).trans rfl; have hcz21_2 : w20.cell? ⟨gb381, 2, none⟩ = some (.string a1_2) := (blk_cell BK381.out 2).trans rfl; have hfz21_0 := blk_frozen BK381.out 0; have hfz21_1 := blk_frozen BK381.out 1; have hfz21_2 := blk_frozen BK381.out 2) | ((with_reducible refine gate_dst (N := 9) rfl ?_); refine Kd.R_lit k39 _ 39 ?hg (N := 9) ?hd (xs := ([(⟨a1_0, a1_1, a1_2⟩ : S39)] : List (S39))) (inner := [.int .u8 a1_0, .int .i64 a1_1, .string a1_2]) (ok := fun _ => True) (okp := fun _ => True) ?hr ?hp (fun _ hk => hk) trivial (Below.refl _ _) (Nat.le_refl _) (by simp) ?_; (case hd => rfl); (case hg => rfl); (case hr => first | (go_simp; done) | (go_simp; rfl)); (case hp => exact (Reps.c3 (show Kd.M k39 _ _ _ (⟨a1_0, a1_1, a1_2⟩ : S39) [.int .u8 a1_0, .int .i64 a1_1, .string a1_2] from (k39_mkM _ _ _ (⟨a1_0, a1_1, a1_2⟩ : S39) )) (Reps.none _ _))); intro v383 w22 ho23 hb hg_ hnew_; clear hg_ hnew_; (first | rw [← Ny382.out] at ho23 | (simp only [Int.reduceToNat] at ho23; rw [← Ny382.out] at ho23)); have n0_ := Aside0.mk (Kd.R_lower (Kd.R_newB ho23 (g := gb381) (o := .cells #[.int .u8 a1_0, .int .i64 a1_1, .string a1_2] 39 (0, 0)) (by (with_reducible repeat (first | refine blk_drewN ?_ _ | refine blk_drew ?_ | refine blk_alloc ?_ _)); exact BK381.out)) (below_size (by repeat (first | (with_reducible first | exact HB.out | apply below_alloc | apply pw_below_drewN | apply below_drew1 | refine below_set ?_ GE381.out) | exact HB.out)))); have n1_ := Aside0.mk (blk_below (g := gb381) (o := .cells #[.int .u8 a1_0, .int .i64 a1_1, .string a1_2] 39 (0, 0)) (by (with_reducible repeat (first | refine blk_drewN ?_ _ | refine blk_drew ?_ | refine blk_alloc ?_ _)); exact BK381.out) hb); have n2_ := Aside0.mk (below_step (by repeat (first | (with_reducible first | exact HB.out | apply below_alloc | apply pw_below_drewN | apply below_drew1 | refine below_set ?_ GE381.out) | exact HB.out)) hb); clear BK381; clear HB; have HO384 := n0_; have BK381 := n1_; have HB := n2_; clear n0_ n1_ n2_; clear hb ho23; obtain ⟨Ao24, co24, eo24⟩ := Kd.R_slice HO384.out; subst eo24) | ((with_reducible refine gate_callee (f := 30) rfl ?_); refine goesL_ (some 10) rfl rfl Try.func30 (by kernel_rfl) rfl #[.slice none 0 0, .slice Ao24 y382.length co24] rfl (by (try simp only [List.map_toArray, List.map_cons, List.map_nil]); first | done | rfl | (simp only [List.length_drop, List.length_take]; rfl)) ?_; (refine (key_Append.calls _ _ ([] : List Int) _ _ y382 t385 t386 _ ?side1 ?side2 ?side3 ?side4 A3.out).mono ?_); (case side1 => exact Kd.C_nil _ _); (case side2 => exact Nat.le_refl _); (case side3 => repeat (first | exact (Kd.R_reads' HO384.out).2.2 | (with_reducible refine Kd.C_alloc ?_ _) | (with_reducible refine Kd.C_drewN ?_ _) | (with_reducible refine Kd.C_drew ?_))); (case side4 => exact (Kd.R_reads' HO384.out).2.1); rintro e w25 ⟨v387, rfl, ho0, hb⟩; refine ⟨_, rfl, ?_⟩; have n0_ := Aside0.mk (Kd.R_below (by (with_reducible repeat (first | apply Kd.R_alloc | apply Kd.R_drewN | apply Kd.R_drew)); exact HO384.out) hb); have n1_ := Aside0.mk (Kd.R_lower ho0 (below_size (by repeat (first | (with_reducible first | exact HB.out | apply below_alloc | apply pw_below_drewN | apply below_drew1 | refine below_set ?_ GE381.out) | exact HB.out)))); have n2_ := Aside0.mk (blk_below (g := gb381) (o := .cells #[.int .u8 a1_0, .int .i64 a1_1, .string a1_2] 39 (0, 0)) (by (with_reducible repeat (first | refine blk_drewN ?_ _ | refine blk_drew ?_ | refine blk_alloc ?_ _)); exact BK381.out) hb); have n3_ := Aside0.mk (below_step (by repeat (first | (with_reducible first | exact HB.out | apply below_alloc | apply pw_below_drewN | apply below_drew1 | refine below_set ?_ GE381.out) | exact HB.out)) hb); clear HO384; clear BK381; clear HB; have HO384 := n0_; have HO388 := n1_; have BK381 := n2_; have HB := n3_; clear n0_ n1_ n2_ n3_; (try clear hb); (try clear hb2); (try clear hk); (try clear hi); (try clear ho0)))
    go_ret
    exact ⟨by first | rfl | (simp [errW_none, errW_some] <;> rfl) | (simp [*, errW_none, errW_some] <;> rfl), by repeat (first | (with_reducible first | exact HB.out | apply below_alloc | apply pw_below_drewN | apply below_drew1 | refine below_set ?_ GE381.out) | exact HB.out)⟩

end Go.Proofs.Ytlmcefhpnfoahaa.P
end

section
namespace Go.Proofs.Ytlmcefhpnfoahaa.P
open Go.RowKit Go.ChangeShapes Go.WideShapes Go.Proofs.YtlmcefhpnfoahaaW.PrintWords
set_option linter.unusedVariables false
section
variable {H : Type} {enc : TypeId × Value → H} {w : World} {α : Type}
/-- Whatever reads as data of type e is told by the kind k, and is ok. -/
def Tells (enc : TypeId × Value → H) (w : World) (k : Kd α) (e : TypeId) (ok : α → Prop) : Prop :=
  ∀ fuel cs x, DataW.trod enc Try.prog w 0 (fun _ => true) true fuel e cs = some x → ∃ a, k.K w a cs ∧ ok a
theorem tells_int {e : TypeId} {q : IntKind} (he : Try.prog.underlying e = some (.int q)) : Tells enc w (Kd.int q) e (fun n => (Lit.int q n).wf = true) := by
  intro fuel cs x h
  obtain ⟨n, rfl, _, hw⟩ := DataW.trod_int he h
  exact ⟨n, rfl, hw⟩
theorem tells_string {e : TypeId} (he : Try.prog.underlying e = some .string) : Tells enc w Kd.string e (fun s => s.size ≤ maxLen) := by
  intro fuel cs x h
  obtain ⟨s, rfl, _, hw⟩ := DataW.trod_string he h
  exact ⟨s, rfl, hw⟩
theorem three {l : List Value} (h : l.length = 3) : ∃ a b c, l = [a, b, c] := by
  rcases l with _ | ⟨a, _ | ⟨b, _ | ⟨c, _ | ⟨d, r⟩⟩⟩⟩
  · simp at h
  · simp at h
  · simp at h
  · exact ⟨a, b, c, rfl⟩
  · simp at h
/-- A value that came in. -/
def okVal (x : S39) : Prop := (0 ≤ x.f0 ∧ x.f0 ≤ 255) ∧ (-9223372036854775808 ≤ x.f1 ∧ x.f1 ≤ 9223372036854775807) ∧ x.f2.size ≤ maxLen
theorem tells_val : Tells enc w k39 39 okVal := by
  intro fuel cs x h
  obtain ⟨y0, y1, y2, n, _, hl, h0, h1, h2⟩ := Go.Deep.trod_struct3 Try.underlying39 h
  have hc : Try.prog.cellsOf 39 = 3 := by kernel_rfl
  have c5 : Try.prog.cellsOf 5 = 1 := by kernel_rfl
  have c2 : Try.prog.cellsOf 2 = 1 := by kernel_rfl
  have c9 : Try.prog.cellsOf 9 = 1 := by kernel_rfl
  rw [hc] at hl
  obtain ⟨a, b, c, rfl⟩ := three hl
  simp only [c5, List.drop_zero, List.take] at h0
  simp only [c2, List.drop, List.take] at h1
  simp only [c9, List.drop, List.take] at h2
  obtain ⟨n0, e0, _, w0⟩ := DataW.trod_int Try.underlying5 h0
  obtain ⟨n1, e1, _, w1⟩ := DataW.trod_int Try.underlying2 h1
  obtain ⟨s, e2, _, w2⟩ := DataW.trod_string Try.underlying9 h2
  injection e0 with e0
  injection e1 with e1
  injection e2 with e2
  subst e0 e1 e2
  have u0 : 0 ≤ n0 ∧ n0 ≤ 255 := by
    have hmin : IntKind.u8.min = 0 := rfl
    have hmax : IntKind.u8.max = 255 := rfl
    simp only [Lit.wf, Bool.and_eq_true, decide_eq_true_eq] at w0
    omega
  have u1 : -9223372036854775808 ≤ n1 ∧ n1 ≤ 9223372036854775807 := by
    have hmin : IntKind.i64.min = -9223372036854775808 := rfl
    have hmax : IntKind.i64.max = 9223372036854775807 := rfl
    simp only [Lit.wf, Bool.and_eq_true, decide_eq_true_eq] at w1
    omega
  exact ⟨⟨n0, n1, s⟩, k39_mk w ⟨n0, n1, s⟩, u0, u1, w2⟩
/-- A slice whose elements are told, as a list that is read. -/
theorem open_rows {k : Kd α} {e t : TypeId} {ok : α → Prop} (d : α) (ht : Try.prog.underlying t = some (.slice e)) (hsz : Try.prog.cellsOf e = k.sz) (hk : Tells enc w k e ok) {fuel : Nat} {cs : List Value} {x : DataW H × List MemPlace}
    (h : DataW.trod enc Try.prog w 0 (fun _ => true) true fuel t cs = some x) :
    ∃ (A : Option Addr) (c : Nat) (xs : List α), cs = [.slice A xs.length c] ∧ xs.length ≤ c ∧ Kd.C k w A xs.length xs ∧ xs.length ≤ maxLen ∧ ∀ y ∈ xs, ok y := by
  rcases Go.Deep.open_slice ht h with ⟨rfl, _⟩ | ⟨a, len, cap, m, n, D, Pl, rfl, hb, hl, hm, hmm, _, hi⟩
  · exact ⟨none, 0, [], rfl, Nat.le_refl _, Kd.C_nil _ w, Nat.zero_le _, fun y hy => by cases hy⟩
  · simp only [if_true] at hmm
    have hall : ∀ i, i < len → ∃ y, ok y ∧ ∃ c, c.length = k.sz ∧ k.K w y c ∧ ∀ j u, c[j]? = some u → w.cell? (a.add (i * k.sz + j)) = some u := by
      intro i hil
      obtain ⟨cs', hc, ht'⟩ := hi i (by omega)
      obtain ⟨y, hy, hoky⟩ := hk _ _ _ ht'
      rw [hsz] at hc
      obtain ⟨_, hcl, hat⟩ := World.cells?_some hc
      refine ⟨y, hoky, cs', hcl, hy, fun j u hu => ?_⟩
      have hj : j < k.sz := by
        rw [← hcl]
        exact (List.getElem?_eq_some_iff.1 hu).1
      rw [← Go.Deep.add_add, hat j hj, hu]
    haveI : Inhabited α := ⟨d⟩
    obtain ⟨f, hf⟩ := Go.Deep.choose_lt hall
    have hlen : ((List.range len).map f).length = len := by simp
    refine ⟨some a, cap, (List.range len).map f, by rw [hlen], by rw [hlen]; exact hl, ?_, by rw [hlen]; omega, ?_⟩
    · refine ⟨rfl, by rw [hlen]; unfold maxLen at hm; omega, fun _ => ⟨a, rfl, fun j p hj => ?_⟩⟩
      rw [List.getElem?_map] at hj
      obtain ⟨q, hq, rfl⟩ := Option.map_eq_some_iff.1 hj
      have hjl : j < len := by
        have := (List.getElem?_eq_some_iff.1 hq).1
        simpa using this
      rw [List.getElem?_range hjl] at hq
      injection hq with hq
      subst hq
      obtain ⟨_, c, h1, h2, h3⟩ := hf j hjl
      exact ⟨c, h1, h2, h3⟩
    · intro y hy
      obtain ⟨i, hi', rfl⟩ := List.mem_map.1 hy
      exact (hf i (by simpa using hi')).1
theorem tells_slice {k : Kd α} {e t : TypeId} {ok : α → Prop} (d : α) (ht : Try.prog.underlying t = some (.slice e)) (hsz : Try.prog.cellsOf e = k.sz) (hk : Tells enc w k e ok) : Tells enc w (Kd.slice e k) t (fun xs => ∀ y ∈ xs, ok y) := by
  intro fuel cs x h
  obtain ⟨A, c, xs, rfl, hc, hC, _, hok⟩ := open_rows d ht hsz hk h
  exact ⟨xs, ⟨A, c, rfl, hc, hC⟩, hok⟩
/-- The same of an argument. -/
theorem open_arg {k : Kd α} {e t : TypeId} {ok : α → Prop} (d : α) (ht : Try.prog.underlying t = some (.slice e)) (hsz : Try.prog.cellsOf e = k.sz) (hk : Tells enc w k e ok) {a : Option Addr} {len cap : Nat} {D : DataW H} {ps : List MemPlace}
    (h : DataW.Trod enc Try.prog w 0 (fun _ => true) true t (.slice a len cap) D ps) :
    ∃ xs : List α, len = xs.length ∧ xs.length ≤ cap ∧ Kd.C k w a xs.length xs ∧ xs.length ≤ maxLen ∧ ∀ y ∈ xs, ok y := by
  obtain ⟨fuel, hf⟩ := h
  obtain ⟨A, c, xs, he, hc, hC, hm, hok⟩ := open_rows d ht hsz hk hf
  simp only [Value.cells, List.cons.injEq, and_true] at he
  injection he with h1 h2 h3
  subst h1 h2 h3
  exact ⟨xs, rfl, hc, hC, hm, hok⟩
theorem byte_of_wf {n : Int} (h : (Lit.int .u8 n).wf = true) : 0 ≤ n ∧ n ≤ 255 := by
  have hmin : IntKind.u8.min = 0 := rfl
  have hmax : IntKind.u8.max = 255 := rfl
  simp only [Lit.wf, Bool.and_eq_true, decide_eq_true_eq] at h
  omega
end
end Go.Proofs.Ytlmcefhpnfoahaa.P
end

section
namespace Go.Proofs.Ytlmcefhpnfoahaa.P
open Go.RowKit Go.Proofs.YtlmcefhpnfoahaaW.PrintWords Go.Proofs.YtlmcefhpnfoahaaW.PrintLast Go.Proofs.YtlmcefhpnfoahaaW.PrintMore
attribute [local go_sem] max2_int min2_int max_two min_two max_three min_three max_four min_four   -- for this text's walks alone
set_option linter.unusedVariables false
set_option linter.unusedSimpArgs false

attribute [local go_sem high] eqA39
/-! ### tidelineref03_Same: function 32 -/
def tidelineref03_Same.l0 : Nat → List (S39) → List (S39) → Int → Option (Bool)
  | 0, _, _, _ => none
  | k + 1, x0, x1, x5 => if x5 < (x0.length : Int) then (if 0 ≤ x5 then (if x5 < (x1.length : Int) then (if (!(((rd_T39 x0 x5).f0) == ((rd_T39 x1 x5).f0)) || (!(((rd_T39 x0 x5).f1) == ((rd_T39 x1 x5).f1)) || (!((((rd_T39 x0 x5).f2).toList) == (((rd_T39 x1 x5).f2).toList))))) = true then (some false) else (tidelineref03_Same.l0 k x0 x1 (wrap64 (x5 + 1)))) else (none)) else (none)) else (some true)
def tidelineref03_Same.f (k : Nat) (l0 : List (S39)) (l1 : List (S39)) : Option (Bool) := if (l0.length : Int) = (l1.length : Int) then (tidelineref03_Same.l0 k l0 l1 0) else (some false)
theorem tidelineref03_Same.mono_l : ∀ k, (∀ y0 y1 y2, LeO (tidelineref03_Same.l0 k y0 y1 y2) (tidelineref03_Same.l0 (k + 1) y0 y1 y2))
  | 0 => fun _ _ _ r h => by simp [tidelineref03_Same.l0] at h
  | k + 1 => by
    have ih0 := tidelineref03_Same.mono_l k
    · intro y0 y1 y2
      unfold tidelineref03_Same.l0
      repeat' first
      | (with_reducible exact ih0 _ _ _)
      | (with_reducible exact LeO.refl _)
      | (with_reducible exact LeO.none _)
      | (with_reducible refine LeO.ite ?_ ?_)
      | (with_reducible refine LeO.bind ?_ (fun _ => ?_))
      | exact ih0 _ _ _
      | exact LeO.none _
      | refine LeO.ite ?_ ?_
      | refine LeO.bind ?_ (fun _ => ?_)
theorem tidelineref03_Same.mono : ∀ a0 a1 k, LeO (tidelineref03_Same.f k a0 a1) (tidelineref03_Same.f (k + 1) a0 a1) := by
  intro a0 a1 k
  have ih0 := tidelineref03_Same.mono_l k
  unfold tidelineref03_Same.f
  repeat' first
      | (with_reducible exact ih0 _ _ _)
      | (with_reducible exact LeO.refl _)
      | (with_reducible exact LeO.none _)
      | (with_reducible refine LeO.ite ?_ ?_)
      | (with_reducible refine LeO.bind ?_ (fun _ => ?_))
      | exact ih0 _ _ _
      | exact LeO.none _
      | refine LeO.ite ?_ ?_
      | refine LeO.bind ?_ (fun _ => ?_)
set_option maxHeartbeats 8000000 in
set_option maxRecDepth 100000 in
theorem tidelineref03_Same.calls (k : Nat) (A0 : Option Addr) (c0 : Nat) (l0 : List (S39)) (A1 : Option Addr) (c1 : Nat) (l1 : List (S39)) (r : Bool) (w : World) (hr0 : Kd.C k39 w A0 l0.length l0) (hc0 : l0.length ≤ c0) (hr1 : Kd.C k39 w A1 l1.length l1) (hc1 : l1.length ≤ c1) (h : tidelineref03_Same.f k l0 l1 = some r) :
    Calls Try.prog 32 #[.slice A0 l0.length c0, .slice A1 l1.length c1] w fun e w' => e = .returned (.bool r) ∧ Drawn0 w w' := by
  have hu39 := Try.underlying39
  have HR0 := Aside0.mk hr0
  have HC0 := Aside0.mk hc0
  clear hr0 hc0
  have HR1 := Aside0.mk hr1
  have HC1 := Aside0.mk hc1
  clear hr1 hc1
  have H : (if (l0.length : Int) = (l1.length : Int) then (tidelineref03_Same.l0 k l0 l1 0) else (some false)) = some r := h
  clear h
  by_cases c3 : (l0.length : Int) = (l1.length : Int)
  · rw [if_pos c3] at H
    have c3b0 : ((l0.length : Int) == (l1.length : Int)) = true := beq_iff_eq.mpr c3
    have c3b1 : ((l0.length : Int) != (l1.length : Int)) = false := bne_eq_false_iff_eq.mpr c3
    have c3b2 : (l0.length == l1.length) = true := by first | simpa using c3 | (simp at c3 ⊢; omega)
    clear c3
    have H' := Aside0.mk H
    clear H
    go_enter Try.func32, Try.ntmps32
    go_wp2
    repeat (go_quiet (fail); try go_wp2)
    go_loopg [5] k (fun kq v5 w' => ∃ (x5_1 : Int), v5 = .int .i64 x5_1 ∧ Aside0 (tidelineref03_Same.l0 kq l0 l1 x5_1 = some r) ∧ Aside0 (kq ≤ k) ∧ Drawn0 w w')
    case atStart => exact ⟨(0), (by first | rfl | (simp; done) | (simp [*]; done)), H', ⟨Nat.le_refl _⟩, by repeat (first | exact Drawn0.refl _ | apply Drawn0.step)⟩
    case round =>
      clear H'
      try clear c1
      try clear p2
      try clear c3
      try clear c3b0
      try clear c3b1
      try clear c3b2
      obtain ⟨x5_1, rfl, HA, HK1, ⟨m1, rfl⟩⟩ := hrel
      cases gk with
      | zero => exact absurd HA.out (by simp [tidelineref03_Same.l0])
      | succ k1 =>
        have H := HA.out
        clear HA
        simp only [tidelineref03_Same.l0] at H
        by_cases c4 : x5_1 < (l0.length : Int)
        · rw [if_pos c4] at H
          have c4b0 : decide (x5_1 < (l0.length : Int)) = true := decide_eq_true c4
          clear c4
          by_cases c5 : 0 ≤ x5_1
          · rw [if_pos c5] at H
            have c5b0 : decide (0 ≤ x5_1) = true := decide_eq_true c5
            clear c5
            by_cases c6 : x5_1 < (l1.length : Int)
            · rw [if_pos c6] at H
              have c6b0 : decide (x5_1 < (l1.length : Int)) = true := decide_eq_true c6
              clear c6
              by_cases c7 : (!(((rd_T39 l0 x5_1).f0) == ((rd_T39 l1 x5_1).f0)) || (!(((rd_T39 l0 x5_1).f1) == ((rd_T39 l1 x5_1).f1)) || (!((((rd_T39 l0 x5_1).f2).toList) == (((rd_T39 l1 x5_1).f2).toList))))) = true
              · rw [if_pos c7] at H
                have c7b0 : (!(((rd_T39 l0 x5_1).f0) == ((rd_T39 l1 x5_1).f0)) || (!(((rd_T39 l0 x5_1).f1) == ((rd_T39 l1 x5_1).f1)) || (!((((rd_T39 l0 x5_1).f2).toList) == (((rd_T39 l1 x5_1).f2).toList))))) = true := c7
                clear c7
                obtain rfl := Option.some.inj H
                have p148 : 0 ≤ (x5_1 : Int) := of_decide_eq_true (by first | (with_reducible assumption) | assumption)
                have q148 : x5_1 < (l0.length : Int) := of_decide_eq_true (by first | (with_reducible assumption) | assumption)
                obtain ⟨ad148, e148, hx148_0, hx148_1, hx148_2⟩ := at_T39 HR0.out x5_1 p148 q148
                cases e148
                replace p148 := eq_true p148
                replace q148 := eq_true q148
                have p149 : 0 ≤ (x5_1 : Int) := of_decide_eq_true (by first | (with_reducible assumption) | assumption)
                have q149 : x5_1 < (l1.length : Int) := of_decide_eq_true (by first | (with_reducible assumption) | assumption)
                obtain ⟨ad149, e149, hx149_0, hx149_1, hx149_2⟩ := at_T39 HR1.out x5_1 p149 q149
                cases e149
                replace p149 := eq_true p149
                replace q149 := eq_true q149
                go_wp2
                repeat (go_quiet (fail); try go_wp2)
                go_ret
                exact ⟨by first | rfl | (simp; done) | (simp [*]; done), by repeat (first | exact Drawn0.refl _ | apply Drawn0.step)⟩
              · rw [if_neg c7] at H
                have c7b0 : (!(((rd_T39 l0 x5_1).f0) == ((rd_T39 l1 x5_1).f0)) || (!(((rd_T39 l0 x5_1).f1) == ((rd_T39 l1 x5_1).f1)) || (!((((rd_T39 l0 x5_1).f2).toList) == (((rd_T39 l1 x5_1).f2).toList))))) = false := by simpa using c7
                clear c7
                have H' := Aside0.mk H
                clear H
                have p148 : 0 ≤ (x5_1 : Int) := of_decide_eq_true (by first | (with_reducible assumption) | assumption)
                have q148 : x5_1 < (l0.length : Int) := of_decide_eq_true (by first | (with_reducible assumption) | assumption)
                obtain ⟨ad148, e148, hx148_0, hx148_1, hx148_2⟩ := at_T39 HR0.out x5_1 p148 q148
                cases e148
                replace p148 := eq_true p148
                replace q148 := eq_true q148
                have p149 : 0 ≤ (x5_1 : Int) := of_decide_eq_true (by first | (with_reducible assumption) | assumption)
                have q149 : x5_1 < (l1.length : Int) := of_decide_eq_true (by first | (with_reducible assumption) | assumption)
                obtain ⟨ad149, e149, hx149_0, hx149_1, hx149_2⟩ := at_T39 HR1.out x5_1 p149 q149
                cases e149
                replace p149 := eq_true p149
                replace q149 := eq_true q149
                go_wp2
                repeat (go_quiet (fail); try go_wp2)
                go_roundg k1
                case measure => have := HK1.out; omega
                case rel => exact ⟨(wrap64 (x5_1 + 1)), (by first | rfl | (simp; done) | (simp [*]; done)), H', ⟨by have := HK1.out; omega⟩, by repeat (first | exact Drawn0.refl _ | apply Drawn0.step)⟩
            · rw [if_neg c6] at H
              exact absurd H (by simp)
          · rw [if_neg c5] at H
            exact absurd H (by simp)
        · rw [if_neg c4] at H
          have c4b0 : decide (x5_1 < (l0.length : Int)) = false := decide_eq_false c4
          clear c4
          obtain rfl := Option.some.inj H
          go_wp2
          repeat (go_quiet (fail); try go_wp2)
          go_ret
          exact ⟨by first | rfl | (simp; done) | (simp [*]; done), by repeat (first | exact Drawn0.refl _ | apply Drawn0.step)⟩
  · rw [if_neg c3] at H
    have c3b0 : ((l0.length : Int) == (l1.length : Int)) = false := beq_eq_false_iff_ne.mpr c3
    have c3b1 : ((l0.length : Int) != (l1.length : Int)) = true := bne_iff_ne.mpr c3
    have c3b2 : (l0.length == l1.length) = false := by first | simpa using c3 | (simp at c3 ⊢; omega)
    obtain rfl := Option.some.inj H
    go_enter Try.func32, Try.ntmps32
    go_wp2
    repeat (go_quiet (fail); try go_wp2)
    go_ret
    exact ⟨by first | rfl | (simp; done) | (simp [*]; done), by repeat (first | exact Drawn0.refl _ | apply Drawn0.step)⟩

end Go.Proofs.Ytlmcefhpnfoahaa.P
end

section
namespace Go.Proofs.Ytlmcefhpnfoahaa.P
open Go.RowKit Go.Proofs.YtlmcefhpnfoahaaW.PrintWords Go.Proofs.YtlmcefhpnfoahaaW.PrintLast Go.Proofs.YtlmcefhpnfoahaaW.PrintMore
attribute [local go_sem] max2_int min2_int max_two min_two max_three min_three max_four min_four   -- for this text's walks alone
set_option linter.unusedVariables false
set_option linter.unusedSimpArgs false

/-! ### tidelineref03_May: function 61 -/
def tidelineref03_May.f (a0_0 : Int) (a0_1 : Int) (a0_2 : ByteArray) : Option (Bool) := if a0_0 > 3 then (some false) else (if a0_0 = 3 then (if a0_0 = 2 then (some true) else (if a0_1 = 0 then (some true) else (if a0_0 = 1 then (some (a0_1 == 1)) else (some false)))) else (if a0_2.toList = ([] : List UInt8) then (if a0_0 = 2 then (some true) else (if a0_1 = 0 then (some true) else (if a0_0 = 1 then (some (a0_1 == 1)) else (some false)))) else (some false)))
set_option maxHeartbeats 8000000 in
set_option maxRecDepth 100000 in
theorem tidelineref03_May.calls (a0_0 : Int) (a0_1 : Int) (a0_2 : ByteArray) (r : Bool) (w : World) (h : tidelineref03_May.f a0_0 a0_1 a0_2 = some r) :
    Calls Try.prog 61 #[.agg #[.int .u8 a0_0, .int .i64 a0_1, .string a0_2]] w fun e w' => e = .returned (.bool r) ∧ Below w.heap.size w w' := by
  have hu39 := Try.underlying39
  have HB := Aside0.mk (Below.refl w.heap.size w)
  have H : (if a0_0 > 3 then (some false) else (if a0_0 = 3 then (if a0_0 = 2 then (some true) else (if a0_1 = 0 then (some true) else (if a0_0 = 1 then (some (a0_1 == 1)) else (some false)))) else (if a0_2.toList = ([] : List UInt8) then (if a0_0 = 2 then (some true) else (if a0_1 = 0 then (some true) else (if a0_0 = 1 then (some (a0_1 == 1)) else (some false)))) else (some false)))) = some r := h
  clear h
  by_cases c2 : a0_0 > 3
  · rw [if_pos c2] at H
    have c2b0 : decide (3 < a0_0) = true := decide_eq_true c2
    clear c2
    obtain rfl := Option.some.inj H
    go_enter Try.func61, Try.ntmps61
    go_wp2_with (first | ((with_reducible refine gate_dst (N := 1) rfl ?_); refine box_event ?hg (N := 1) ?hd (cs := #[.int .u8 a0_0, .int .i64 a0_1, .string a0_2]) (t := 39) ?hr ?_; (case hd => rfl); (case hg => rfl); (case hr => first | (go_simp; done) | (go_simp; rfl)); intro gb103 hg w3 hbox hb; have n0_ := Aside0.mk (below_step (by repeat (first | (with_reducible first | exact HB.out | apply below_alloc | apply pw_below_drewN | apply below_drew1) | exact HB.out)) hb); have n1_ := Aside0.mk (hbox); have n2_ := Aside0.mk ((by rw [hg]; exact (below_size (by repeat (first | (with_reducible first | exact HB.out | apply below_alloc | apply pw_below_drewN | apply below_drew1) | exact HB.out))) : w.heap.size ≤ gb103)); have n3_ := Aside0.mk ((by rw [hg]; exact (below_size (by repeat (first | (with_reducible first | exact HB.out | apply below_alloc | apply pw_below_drewN | apply below_drew1) | exact HB.out))) : w.heap.size ≤ gb103)); clear HB; have HB := n0_; have BK103 := n1_; have GW103 := n2_; have GE103 := n3_; clear n0_ n1_ n2_ n3_; clear hb hbox hg; have hcz4_0 : w3.cell? ⟨gb103, 0, none⟩ = some (.int .u8 a0_0) := (blk_cell BK103.out 0).trans rfl; have hcz4_1 : w3.cell? ⟨gb103, 1, none⟩ = some (.int .i64 a0_1) := (blk_cell BK103.out 1).trans rfl; have hcz4_2 : w3.cell? ⟨gb103, 2, none⟩ = some (.string a0_2) := (blk_cell BK103.out 2).trans rfl; have hfz4_0 := blk_frozen BK103.out 0; have hfz4_1 := blk_frozen BK103.out 1; have hfz4_2 := blk_frozen BK103.out 2))
    go_ret
    exact ⟨by first | rfl | (simp [errW_none, errW_some] <;> rfl) | (simp [*, errW_none, errW_some] <;> rfl), by repeat (first | (with_reducible first | exact HB.out | apply below_alloc | apply pw_below_drewN | apply below_drew1 | refine below_set ?_ GE103.out) | exact HB.out)⟩
  · rw [if_neg c2] at H
    have c2b0 : decide (3 < a0_0) = false := decide_eq_false c2
    clear c2
    by_cases c5 : a0_0 = 3
    · rw [if_pos c5] at H
      have c5b0 : (a0_0 == 3) = true := beq_iff_eq.mpr c5
      have c5b1 : (a0_0 != 3) = false := bne_eq_false_iff_eq.mpr c5
      clear c5
      by_cases c6 : a0_0 = 2
      · rw [if_pos c6] at H
        have c6b0 : (a0_0 == 2) = true := beq_iff_eq.mpr c6
        have c6b1 : (a0_0 != 2) = false := bne_eq_false_iff_eq.mpr c6
        clear c6
        obtain rfl := Option.some.inj H
        go_enter Try.func61, Try.ntmps61
        go_wp2_with (first | ((with_reducible refine gate_dst (N := 1) rfl ?_); refine box_event ?hg (N := 1) ?hd (cs := #[.int .u8 a0_0, .int .i64 a0_1, .string a0_2]) (t := 39) ?hr ?_; (case hd => rfl); (case hg => rfl); (case hr => first | (go_simp; done) | (go_simp; rfl)); intro gb103 hg w7 hbox hb; have n0_ := Aside0.mk (below_step (by repeat (first | (with_reducible first | exact HB.out | apply below_alloc | apply pw_below_drewN | apply below_drew1) | exact HB.out)) hb); have n1_ := Aside0.mk (hbox); have n2_ := Aside0.mk ((by rw [hg]; exact (below_size (by repeat (first | (with_reducible first | exact HB.out | apply below_alloc | apply pw_below_drewN | apply below_drew1) | exact HB.out))) : w.heap.size ≤ gb103)); have n3_ := Aside0.mk ((by rw [hg]; exact (below_size (by repeat (first | (with_reducible first | exact HB.out | apply below_alloc | apply pw_below_drewN | apply below_drew1) | exact HB.out))) : w.heap.size ≤ gb103)); clear HB; have HB := n0_; have BK103 := n1_; have GW103 := n2_; have GE103 := n3_; clear n0_ n1_ n2_ n3_; clear hb hbox hg; have hcz8_0 : w7.cell? ⟨gb103, 0, none⟩ = some (.int .u8 a0_0) := (blk_cell BK103.out 0).trans rfl; have hcz8_1 : w7.cell? ⟨gb103, 1, none⟩ = some (.int .i64 a0_1) := (blk_cell BK103.out 1).trans rfl; have hcz8_2 : w7.cell? ⟨gb103, 2, none⟩ = some (.string a0_2) := (blk_cell BK103.out 2).trans rfl; have hfz8_0 := blk_frozen BK103.out 0; have hfz8_1 := blk_frozen BK103.out 1; have hfz8_2 := blk_frozen BK103.out 2))
        go_ret
        exact ⟨by first | rfl | (simp [errW_none, errW_some] <;> rfl) | (simp [*, errW_none, errW_some] <;> rfl), by repeat (first | (with_reducible first | exact HB.out | apply below_alloc | apply pw_below_drewN | apply below_drew1 | refine below_set ?_ GE103.out) | exact HB.out)⟩
      · rw [if_neg c6] at H
        have c6b0 : (a0_0 == 2) = false := beq_eq_false_iff_ne.mpr c6
        have c6b1 : (a0_0 != 2) = true := bne_iff_ne.mpr c6
        by_cases c9 : a0_1 = 0
        · rw [if_pos c9] at H
          have c9b0 : (a0_1 == 0) = true := beq_iff_eq.mpr c9
          have c9b1 : (a0_1 != 0) = false := bne_eq_false_iff_eq.mpr c9
          clear c9
          obtain rfl := Option.some.inj H
          go_enter Try.func61, Try.ntmps61
          go_wp2_with (first | ((with_reducible refine gate_dst (N := 1) rfl ?_); refine box_event ?hg (N := 1) ?hd (cs := #[.int .u8 a0_0, .int .i64 a0_1, .string a0_2]) (t := 39) ?hr ?_; (case hd => rfl); (case hg => rfl); (case hr => first | (go_simp; done) | (go_simp; rfl)); intro gb103 hg w10 hbox hb; have n0_ := Aside0.mk (below_step (by repeat (first | (with_reducible first | exact HB.out | apply below_alloc | apply pw_below_drewN | apply below_drew1) | exact HB.out)) hb); have n1_ := Aside0.mk (hbox); have n2_ := Aside0.mk ((by rw [hg]; exact (below_size (by repeat (first | (with_reducible first | exact HB.out | apply below_alloc | apply pw_below_drewN | apply below_drew1) | exact HB.out))) : w.heap.size ≤ gb103)); have n3_ := Aside0.mk ((by rw [hg]; exact (below_size (by repeat (first | (with_reducible first | exact HB.out | apply below_alloc | apply pw_below_drewN | apply below_drew1) | exact HB.out))) : w.heap.size ≤ gb103)); clear HB; have HB := n0_; have BK103 := n1_; have GW103 := n2_; have GE103 := n3_; clear n0_ n1_ n2_ n3_; clear hb hbox hg; have hcz11_0 : w10.cell? ⟨gb103, 0, none⟩ = some (.int .u8 a0_0) := (blk_cell BK103.out 0).trans rfl; have hcz11_1 : w10.cell? ⟨gb103, 1, none⟩ = some (.int .i64 a0_1) := (blk_cell BK103.out 1).trans rfl; have hcz11_2 : w10.cell? ⟨gb103, 2, none⟩ = some (.string a0_2) := (blk_cell BK103.out 2).trans rfl; have hfz11_0 := blk_frozen BK103.out 0; have hfz11_1 := blk_frozen BK103.out 1; have hfz11_2 := blk_frozen BK103.out 2))
          go_ret
          exact ⟨by first | rfl | (simp [errW_none, errW_some] <;> rfl) | (simp [*, errW_none, errW_some] <;> rfl), by repeat (first | (with_reducible first | exact HB.out | apply below_alloc | apply pw_below_drewN | apply below_drew1 | refine below_set ?_ GE103.out) | exact HB.out)⟩
        · rw [if_neg c9] at H
          have c9b0 : (a0_1 == 0) = false := beq_eq_false_iff_ne.mpr c9
          have c9b1 : (a0_1 != 0) = true := bne_iff_ne.mpr c9
          by_cases c12 : a0_0 = 1
          · rw [if_pos c12] at H
            have c12b0 : (a0_0 == 1) = true := beq_iff_eq.mpr c12
            have c12b1 : (a0_0 != 1) = false := bne_eq_false_iff_eq.mpr c12
            clear c12
            obtain rfl := Option.some.inj H
            go_enter Try.func61, Try.ntmps61
            go_wp2_with (first | ((with_reducible refine gate_dst (N := 1) rfl ?_); refine box_event ?hg (N := 1) ?hd (cs := #[.int .u8 a0_0, .int .i64 a0_1, .string a0_2]) (t := 39) ?hr ?_; (case hd => rfl); (case hg => rfl); (case hr => first | (go_simp; done) | (go_simp; rfl)); intro gb103 hg w13 hbox hb; have n0_ := Aside0.mk (below_step (by repeat (first | (with_reducible first | exact HB.out | apply below_alloc | apply pw_below_drewN | apply below_drew1) | exact HB.out)) hb); have n1_ := Aside0.mk (hbox); have n2_ := Aside0.mk ((by rw [hg]; exact (below_size (by repeat (first | (with_reducible first | exact HB.out | apply below_alloc | apply pw_below_drewN | apply below_drew1) | exact HB.out))) : w.heap.size ≤ gb103)); have n3_ := Aside0.mk ((by rw [hg]; exact (below_size (by repeat (first | (with_reducible first | exact HB.out | apply below_alloc | apply pw_below_drewN | apply below_drew1) | exact HB.out))) : w.heap.size ≤ gb103)); clear HB; have HB := n0_; have BK103 := n1_; have GW103 := n2_; have GE103 := n3_; clear n0_ n1_ n2_ n3_; clear hb hbox hg; have hcz14_0 : w13.cell? ⟨gb103, 0, none⟩ = some (.int .u8 a0_0) := (blk_cell BK103.out 0).trans rfl; have hcz14_1 : w13.cell? ⟨gb103, 1, none⟩ = some (.int .i64 a0_1) := (blk_cell BK103.out 1).trans rfl; have hcz14_2 : w13.cell? ⟨gb103, 2, none⟩ = some (.string a0_2) := (blk_cell BK103.out 2).trans rfl; have hfz14_0 := blk_frozen BK103.out 0; have hfz14_1 := blk_frozen BK103.out 1; have hfz14_2 := blk_frozen BK103.out 2))
            go_ret
            exact ⟨by first | rfl | (simp [errW_none, errW_some] <;> rfl) | (simp [*, errW_none, errW_some] <;> rfl), by repeat (first | (with_reducible first | exact HB.out | apply below_alloc | apply pw_below_drewN | apply below_drew1 | refine below_set ?_ GE103.out) | exact HB.out)⟩
          · rw [if_neg c12] at H
            have c12b0 : (a0_0 == 1) = false := beq_eq_false_iff_ne.mpr c12
            have c12b1 : (a0_0 != 1) = true := bne_iff_ne.mpr c12
            obtain rfl := Option.some.inj H
            go_enter Try.func61, Try.ntmps61
            go_wp2_with (first | ((with_reducible refine gate_dst (N := 1) rfl ?_); refine box_event ?hg (N := 1) ?hd (cs := #[.int .u8 a0_0, .int .i64 a0_1, .string a0_2]) (t := 39) ?hr ?_; (case hd => rfl); (case hg => rfl); (case hr => first | (go_simp; done) | (go_simp; rfl)); intro gb103 hg w15 hbox hb; have n0_ := Aside0.mk (below_step (by repeat (first | (with_reducible first | exact HB.out | apply below_alloc | apply pw_below_drewN | apply below_drew1) | exact HB.out)) hb); have n1_ := Aside0.mk (hbox); have n2_ := Aside0.mk ((by rw [hg]; exact (below_size (by repeat (first | (with_reducible first | exact HB.out | apply below_alloc | apply pw_below_drewN | apply below_drew1) | exact HB.out))) : w.heap.size ≤ gb103)); have n3_ := Aside0.mk ((by rw [hg]; exact (below_size (by repeat (first | (with_reducible first | exact HB.out | apply below_alloc | apply pw_below_drewN | apply below_drew1) | exact HB.out))) : w.heap.size ≤ gb103)); clear HB; have HB := n0_; have BK103 := n1_; have GW103 := n2_; have GE103 := n3_; clear n0_ n1_ n2_ n3_; clear hb hbox hg; have hcz16_0 : w15.cell? ⟨gb103, 0, none⟩ = some (.int .u8 a0_0) := (blk_cell BK103.out 0).trans rfl; have hcz16_1 : w15.cell? ⟨gb103, 1, none⟩ = some (.int .i64 a0_1) := (blk_cell BK103.out 1).trans rfl; have hcz16_2 : w15.cell? ⟨gb103, 2, none⟩ = some (.string a0_2) := (blk_cell BK103.out 2).trans rfl; have hfz16_0 := blk_frozen BK103.out 0; have hfz16_1 := blk_frozen BK103.out 1; have hfz16_2 := blk_frozen BK103.out 2))
            go_ret
            exact ⟨by first | rfl | (simp [errW_none, errW_some] <;> rfl) | (simp [*, errW_none, errW_some] <;> rfl), by repeat (first | (with_reducible first | exact HB.out | apply below_alloc | apply pw_below_drewN | apply below_drew1 | refine below_set ?_ GE103.out) | exact HB.out)⟩
    · rw [if_neg c5] at H
      have c5b0 : (a0_0 == 3) = false := beq_eq_false_iff_ne.mpr c5
      have c5b1 : (a0_0 != 3) = true := bne_iff_ne.mpr c5
      by_cases c17 : a0_2.toList = ([] : List UInt8)
      · rw [if_pos c17] at H
        have c17b0 : (a0_2.toList == ([] : List UInt8)) = true := beq_iff_eq.mpr c17
        have c17b1 : (a0_2.toList != ([] : List UInt8)) = false := bne_eq_false_iff_eq.mpr c17
        clear c17
        by_cases c18 : a0_0 = 2
        · rw [if_pos c18] at H
          have c18b0 : (a0_0 == 2) = true := beq_iff_eq.mpr c18
          have c18b1 : (a0_0 != 2) = false := bne_eq_false_iff_eq.mpr c18
          clear c18
          obtain rfl := Option.some.inj H
          go_enter Try.func61, Try.ntmps61
          go_wp2_with (first | ((with_reducible refine gate_dst (N := 1) rfl ?_); refine box_event ?hg (N := 1) ?hd (cs := #[.int .u8 a0_0, .int .i64 a0_1, .string a0_2]) (t := 39) ?hr ?_; (case hd => rfl); (case hg => rfl); (case hr => first | (go_simp; done) | (go_simp; rfl)); intro gb103 hg w19 hbox hb; have n0_ := Aside0.mk (below_step (by repeat (first | (with_reducible first | exact HB.out | apply below_alloc | apply pw_below_drewN | apply below_drew1) | exact HB.out)) hb); have n1_ := Aside0.mk (hbox); have n2_ := Aside0.mk ((by rw [hg]; exact (below_size (by repeat (first | (with_reducible first | exact HB.out | apply below_alloc | apply pw_below_drewN | apply below_drew1) | exact HB.out))) : w.heap.size ≤ gb103)); have n3_ := Aside0.mk ((by rw [hg]; exact (below_size (by repeat (first | (with_reducible first | exact HB.out | apply below_alloc | apply pw_below_drewN | apply below_drew1) | exact HB.out))) : w.heap.size ≤ gb103)); clear HB; have HB := n0_; have BK103 := n1_; have GW103 := n2_; have GE103 := n3_; clear n0_ n1_ n2_ n3_; clear hb hbox hg; have hcz20_0 : w19.cell? ⟨gb103, 0, none⟩ = some (.int .u8 a0_0) := (blk_cell BK103.out 0).trans rfl; have hcz20_1 : w19.cell? ⟨gb103, 1, none⟩ = some (.int .i64 a0_1) := (blk_cell BK103.out 1).trans rfl; have hcz20_2 : w19.cell? ⟨gb103, 2, none⟩ = some (.string a0_2) := (blk_cell BK103.out 2).trans rfl; have hfz20_0 := blk_frozen BK103.out 0; have hfz20_1 := blk_frozen BK103.out 1; have hfz20_2 := blk_frozen BK103.out 2))
          go_ret
          exact ⟨by first | rfl | (simp [errW_none, errW_some] <;> rfl) | (simp [*, errW_none, errW_some] <;> rfl), by repeat (first | (with_reducible first | exact HB.out | apply below_alloc | apply pw_below_drewN | apply below_drew1 | refine below_set ?_ GE103.out) | exact HB.out)⟩
        · rw [if_neg c18] at H
          have c18b0 : (a0_0 == 2) = false := beq_eq_false_iff_ne.mpr c18
          have c18b1 : (a0_0 != 2) = true := bne_iff_ne.mpr c18
          by_cases c21 : a0_1 = 0
          · rw [if_pos c21] at H
            have c21b0 : (a0_1 == 0) = true := beq_iff_eq.mpr c21
            have c21b1 : (a0_1 != 0) = false := bne_eq_false_iff_eq.mpr c21
            clear c21
            obtain rfl := Option.some.inj H
            go_enter Try.func61, Try.ntmps61
            go_wp2_with (first | ((with_reducible refine gate_dst (N := 1) rfl ?_); refine box_event ?hg (N := 1) ?hd (cs := #[.int .u8 a0_0, .int .i64 a0_1, .string a0_2]) (t := 39) ?hr ?_; (case hd => rfl); (case hg => rfl); (case hr => first | (go_simp; done) | (go_simp; rfl)); intro gb103 hg w22 hbox hb; have n0_ := Aside0.mk (below_step (by repeat (first | (with_reducible first | exact HB.out | apply below_alloc | apply pw_below_drewN | apply below_drew1) | exact HB.out)) hb); have n1_ := Aside0.mk (hbox); have n2_ := Aside0.mk ((by rw [hg]; exact (below_size (by repeat (first | (with_reducible first | exact HB.out | apply below_alloc | apply pw_below_drewN | apply below_drew1) | exact HB.out))) : w.heap.size ≤ gb103)); have n3_ := Aside0.mk ((by rw [hg]; exact (below_size (by repeat (first | (with_reducible first | exact HB.out | apply below_alloc | apply pw_below_drewN | apply below_drew1) | exact HB.out))) : w.heap.size ≤ gb103)); clear HB; have HB := n0_; have BK103 := n1_; have GW103 := n2_; have GE103 := n3_; clear n0_ n1_ n2_ n3_; clear hb hbox hg; have hcz23_0 : w22.cell? ⟨gb103, 0, none⟩ = some (.int .u8 a0_0) := (blk_cell BK103.out 0).trans rfl; have hcz23_1 : w22.cell? ⟨gb103, 1, none⟩ = some (.int .i64 a0_1) := (blk_cell BK103.out 1).trans rfl; have hcz23_2 : w22.cell? ⟨gb103, 2, none⟩ = some (.string a0_2) := (blk_cell BK103.out 2).trans rfl; have hfz23_0 := blk_frozen BK103.out 0; have hfz23_1 := blk_frozen BK103.out 1; have hfz23_2 := blk_frozen BK103.out 2))
            go_ret
            exact ⟨by first | rfl | (simp [errW_none, errW_some] <;> rfl) | (simp [*, errW_none, errW_some] <;> rfl), by repeat (first | (with_reducible first | exact HB.out | apply below_alloc | apply pw_below_drewN | apply below_drew1 | refine below_set ?_ GE103.out) | exact HB.out)⟩
          · rw [if_neg c21] at H
            have c21b0 : (a0_1 == 0) = false := beq_eq_false_iff_ne.mpr c21
            have c21b1 : (a0_1 != 0) = true := bne_iff_ne.mpr c21
            by_cases c24 : a0_0 = 1
            · rw [if_pos c24] at H
              have c24b0 : (a0_0 == 1) = true := beq_iff_eq.mpr c24
              have c24b1 : (a0_0 != 1) = false := bne_eq_false_iff_eq.mpr c24
              clear c24
              obtain rfl := Option.some.inj H
              go_enter Try.func61, Try.ntmps61
              go_wp2_with (first | ((with_reducible refine gate_dst (N := 1) rfl ?_); refine box_event ?hg (N := 1) ?hd (cs := #[.int .u8 a0_0, .int .i64 a0_1, .string a0_2]) (t := 39) ?hr ?_; (case hd => rfl); (case hg => rfl); (case hr => first | (go_simp; done) | (go_simp; rfl)); intro gb103 hg w25 hbox hb; have n0_ := Aside0.mk (below_step (by repeat (first | (with_reducible first | exact HB.out | apply below_alloc | apply pw_below_drewN | apply below_drew1) | exact HB.out)) hb); have n1_ := Aside0.mk (hbox); have n2_ := Aside0.mk ((by rw [hg]; exact (below_size (by repeat (first | (with_reducible first | exact HB.out | apply below_alloc | apply pw_below_drewN | apply below_drew1) | exact HB.out))) : w.heap.size ≤ gb103)); have n3_ := Aside0.mk ((by rw [hg]; exact (below_size (by repeat (first | (with_reducible first | exact HB.out | apply below_alloc | apply pw_below_drewN | apply below_drew1) | exact HB.out))) : w.heap.size ≤ gb103)); clear HB; have HB := n0_; have BK103 := n1_; have GW103 := n2_; have GE103 := n3_; clear n0_ n1_ n2_ n3_; clear hb hbox hg; have hcz26_0 : w25.cell? ⟨gb103, 0, none⟩ = some (.int .u8 a0_0) := (blk_cell BK103.out 0).trans rfl; have hcz26_1 : w25.cell? ⟨gb103, 1, none⟩ = some (.int .i64 a0_1) := (blk_cell BK103.out 1).trans rfl; have hcz26_2 : w25.cell? ⟨gb103, 2, none⟩ = some (.string a0_2) := (blk_cell BK103.out 2).trans rfl; have hfz26_0 := blk_frozen BK103.out 0; have hfz26_1 := blk_frozen BK103.out 1; have hfz26_2 := blk_frozen BK103.out 2))
              go_ret
              exact ⟨by first | rfl | (simp [errW_none, errW_some] <;> rfl) | (simp [*, errW_none, errW_some] <;> rfl), by repeat (first | (with_reducible first | exact HB.out | apply below_alloc | apply pw_below_drewN | apply below_drew1 | refine below_set ?_ GE103.out) | exact HB.out)⟩
            · rw [if_neg c24] at H
              have c24b0 : (a0_0 == 1) = false := beq_eq_false_iff_ne.mpr c24
              have c24b1 : (a0_0 != 1) = true := bne_iff_ne.mpr c24
              obtain rfl := Option.some.inj H
              go_enter Try.func61, Try.ntmps61
              go_wp2_with (first | ((with_reducible refine gate_dst (N := 1) rfl ?_); refine box_event ?hg (N := 1) ?hd (cs := #[.int .u8 a0_0, .int .i64 a0_1, .string a0_2]) (t := 39) ?hr ?_; (case hd => rfl); (case hg => rfl); (case hr => first | (go_simp; done) | (go_simp; rfl)); intro gb103 hg w27 hbox hb; have n0_ := Aside0.mk (below_step (by repeat (first | (with_reducible first | exact HB.out | apply below_alloc | apply pw_below_drewN | apply below_drew1) | exact HB.out)) hb); have n1_ := Aside0.mk (hbox); have n2_ := Aside0.mk ((by rw [hg]; exact (below_size (by repeat (first | (with_reducible first | exact HB.out | apply below_alloc | apply pw_below_drewN | apply below_drew1) | exact HB.out))) : w.heap.size ≤ gb103)); have n3_ := Aside0.mk ((by rw [hg]; exact (below_size (by repeat (first | (with_reducible first | exact HB.out | apply below_alloc | apply pw_below_drewN | apply below_drew1) | exact HB.out))) : w.heap.size ≤ gb103)); clear HB; have HB := n0_; have BK103 := n1_; have GW103 := n2_; have GE103 := n3_; clear n0_ n1_ n2_ n3_; clear hb hbox hg; have hcz28_0 : w27.cell? ⟨gb103, 0, none⟩ = some (.int .u8 a0_0) := (blk_cell BK103.out 0).trans rfl; have hcz28_1 : w27.cell? ⟨gb103, 1, none⟩ = some (.int .i64 a0_1) := (blk_cell BK103.out 1).trans rfl; have hcz28_2 : w27.cell? ⟨gb103, 2, none⟩ = some (.string a0_2) := (blk_cell BK103.out 2).trans rfl; have hfz28_0 := blk_frozen BK103.out 0; have hfz28_1 := blk_frozen BK103.out 1; have hfz28_2 := blk_frozen BK103.out 2))
              go_ret
              exact ⟨by first | rfl | (simp [errW_none, errW_some] <;> rfl) | (simp [*, errW_none, errW_some] <;> rfl), by repeat (first | (with_reducible first | exact HB.out | apply below_alloc | apply pw_below_drewN | apply below_drew1 | refine below_set ?_ GE103.out) | exact HB.out)⟩
      · rw [if_neg c17] at H
        have c17b0 : (a0_2.toList == ([] : List UInt8)) = false := beq_eq_false_iff_ne.mpr c17
        have c17b1 : (a0_2.toList != ([] : List UInt8)) = true := bne_iff_ne.mpr c17
        obtain rfl := Option.some.inj H
        go_enter Try.func61, Try.ntmps61
        go_wp2_with (first | ((with_reducible refine gate_dst (N := 1) rfl ?_); refine box_event ?hg (N := 1) ?hd (cs := #[.int .u8 a0_0, .int .i64 a0_1, .string a0_2]) (t := 39) ?hr ?_; (case hd => rfl); (case hg => rfl); (case hr => first | (go_simp; done) | (go_simp; rfl)); intro gb103 hg w29 hbox hb; have n0_ := Aside0.mk (below_step (by repeat (first | (with_reducible first | exact HB.out | apply below_alloc | apply pw_below_drewN | apply below_drew1) | exact HB.out)) hb); have n1_ := Aside0.mk (hbox); have n2_ := Aside0.mk ((by rw [hg]; exact (below_size (by repeat (first | (with_reducible first | exact HB.out | apply below_alloc | apply pw_below_drewN | apply below_drew1) | exact HB.out))) : w.heap.size ≤ gb103)); have n3_ := Aside0.mk ((by rw [hg]; exact (below_size (by repeat (first | (with_reducible first | exact HB.out | apply below_alloc | apply pw_below_drewN | apply below_drew1) | exact HB.out))) : w.heap.size ≤ gb103)); clear HB; have HB := n0_; have BK103 := n1_; have GW103 := n2_; have GE103 := n3_; clear n0_ n1_ n2_ n3_; clear hb hbox hg; have hcz30_0 : w29.cell? ⟨gb103, 0, none⟩ = some (.int .u8 a0_0) := (blk_cell BK103.out 0).trans rfl; have hcz30_1 : w29.cell? ⟨gb103, 1, none⟩ = some (.int .i64 a0_1) := (blk_cell BK103.out 1).trans rfl; have hcz30_2 : w29.cell? ⟨gb103, 2, none⟩ = some (.string a0_2) := (blk_cell BK103.out 2).trans rfl; have hfz30_0 := blk_frozen BK103.out 0; have hfz30_1 := blk_frozen BK103.out 1; have hfz30_2 := blk_frozen BK103.out 2))
        go_ret
        exact ⟨by first | rfl | (simp [errW_none, errW_some] <;> rfl) | (simp [*, errW_none, errW_some] <;> rfl), by repeat (first | (with_reducible first | exact HB.out | apply below_alloc | apply pw_below_drewN | apply below_drew1 | refine below_set ?_ GE103.out) | exact HB.out)⟩

end Go.Proofs.Ytlmcefhpnfoahaa.P
end

section
namespace Go.Proofs.Ytlmcefhpnfoahaa.P
open Go.RowKit Go.Proofs.YtlmcefhpnfoahaaW.PrintWords Go.Proofs.YtlmcefhpnfoahaaW.PrintLast Go.Proofs.YtlmcefhpnfoahaaW.PrintMore
set_option linter.unusedVariables false
set_option linter.unusedSimpArgs false

theorem w64 {x : Int} (h1 : -9223372036854775808 ≤ x) (h2 : x ≤ 9223372036854775807) : wrap64 x = x := by
  unfold wrap64
  omega
theorem w64s (i : Nat) (h : i < 9223372036854775807) : wrap64 ((i : Int) + 1) = ((i + 1 : Nat) : Int) := by
  rw [w64 (by omega) (by omega)]
  omega
theorem rdT_mem {l : List S39} {k : Nat} (h : k < l.length) : rd_T39 l k ∈ l := by
  unfold rd_T39
  rw [Int.toNat_natCast, List.getD_eq_getElem?_getD, List.getElem?_eq_getElem h]
  exact List.getElem_mem h
theorem rdT_get {l : List S39} {k : Nat} (h : k < l.length) : rd_T39 l k = l[k] := by
  unfold rd_T39
  rw [Int.toNat_natCast, List.getD_eq_getElem?_getD, List.getElem?_eq_getElem h]
  rfl

theorem refMay {x : S39} (h : 0 ≤ x.f0) : tidelineref03_May.f x.f0 x.f1 x.f2 = some (mayB x) := by
  unfold tidelineref03_May.f mayB
  have e : x.f2.toList = [] ↔ x.f2.toList.isEmpty = true := by simp
  by_cases h4 : x.f0 > 3
  · rw [if_pos h4]
    have h0 : (x.f0 == 0) = false := by simp; omega
    have h1 : (x.f0 == 1) = false := by simp; omega
    have h2 : (x.f0 == 2) = false := by simp; omega
    have h3 : (x.f0 == 3) = false := by simp; omega
    simp [h0, h1, h2, h3]
  · rw [if_neg h4]
    have hc : x.f0 = 0 ∨ x.f0 = 1 ∨ x.f0 = 2 ∨ x.f0 = 3 := by omega
    by_cases he : x.f2.toList = []
    · have he' := e.1 he
      rcases hc with hc | hc | hc | hc
      · rw [hc, he']; by_cases h1 : x.f1 = 0 <;> simp [he, h1]
      · rw [hc, he']; by_cases h1 : x.f1 = 0 <;> simp [he, h1]
      · rw [hc, he']; simp [he]
      · rw [hc, he']; by_cases h1 : x.f1 = 0 <;> simp [h1]
    · have he' : x.f2.toList.isEmpty = false := by
        cases hb : x.f2.toList.isEmpty with
        | false => rfl
        | true => exact absurd (e.2 hb) he
      rcases hc with hc | hc | hc | hc
      · rw [hc, he']; simp [he]
      · rw [hc, he']; simp [he]
      · rw [hc, he']; simp [he]
      · rw [hc, he']; by_cases h1 : x.f1 = 0 <;> simp [h1]
theorem ext39 {x y : S39} (h0 : x.f0 = y.f0) (h1 : x.f1 = y.f1) (h2 : x.f2.toList = y.f2.toList) : x = y := by
  obtain ⟨a, b, c⟩ := x
  obtain ⟨a', b', c'⟩ := y
  dsimp only at *
  rw [ByteArray.toList_eq, ByteArray.toList_eq] at h2
  have := WideShapes.bytes_inj h2
  subst h0 h1 this
  rfl
theorem ne39 (x y : S39) : (!(x.f0 == y.f0) || (!(x.f1 == y.f1) || (!(x.f2.toList == y.f2.toList)))) = true ↔ x ≠ y := by
  simp only [Bool.or_eq_true, Bool.not_eq_true', beq_eq_false_iff_ne]
  constructor
  · rintro h rfl
    rcases h with h | h | h <;> exact h rfl
  · intro h
    by_cases h0 : x.f0 = y.f0
    · by_cases h1 : x.f1 = y.f1
      · by_cases h2 : x.f2.toList = y.f2.toList
        · exact absurd (ext39 h0 h1 h2) h
        · exact .inr (.inr h2)
      · exact .inr (.inl h1)
    · exact .inl h0
theorem same_l0 (a b : List S39) (hl : a.length = b.length) (hm : a.length ≤ maxLen) : ∀ (d k i : Nat), i + d = a.length → d < k → ∃ r, tidelineref03_Same.l0 k a b i = some r ∧ (r = true ↔ a.drop i = b.drop i) := by
  unfold maxLen at hm
  intro d
  induction d with
  | zero =>
    intro k i hi hk
    obtain ⟨k, rfl⟩ : ∃ m, k = m + 1 := ⟨k - 1, by omega⟩
    simp only [tidelineref03_Same.l0]
    rw [if_neg (by omega)]
    exact ⟨true, rfl, by rw [List.drop_eq_nil_of_le (by omega), List.drop_eq_nil_of_le (by omega)]; simp⟩
  | succ d ih =>
    intro k i hi hk
    obtain ⟨k, rfl⟩ : ∃ m, k = m + 1 := ⟨k - 1, by omega⟩
    have ha : i < a.length := by omega
    have hb : i < b.length := by omega
    simp only [tidelineref03_Same.l0]
    rw [if_pos (by omega), if_pos (by omega), if_pos (by omega), List.drop_eq_getElem_cons ha, List.drop_eq_getElem_cons hb, ← rdT_get ha, ← rdT_get hb]
    by_cases h : rd_T39 a i = rd_T39 b i
    · obtain ⟨r, hr, hp⟩ := ih k (i + 1) (by omega) (by omega)
      refine ⟨r, ?_, ?_⟩
      · rw [if_neg (fun hc => (ne39 _ _).1 hc h), w64s i (by omega)]
        exact hr
      · rw [hp, h]
        simp
    · refine ⟨false, by rw [if_pos ((ne39 _ _).2 h)], ?_⟩
      simp [h]
theorem refSame (a b : List S39) (hm : a.length ≤ maxLen) : ∃ r, tidelineref03_Same.f (a.length + 1) a b = some r ∧ (r = true ↔ a = b) := by
  unfold tidelineref03_Same.f
  by_cases h : a.length = b.length
  · obtain ⟨r, hr, hp⟩ := same_l0 a b h hm a.length (a.length + 1) 0 (by omega) (by omega)
    exact ⟨r, by rw [if_pos (by omega)]; exact hr, by simpa using hp⟩
  · refine ⟨false, by rw [if_neg (by omega)], ?_⟩
    constructor
    · intro hc; cases hc
    · rintro rfl; exact absurd rfl h
theorem refSame_self (a : List S39) (hm : a.length ≤ maxLen) : tidelineref03_Same.f (a.length + 1) a a = some true := by
  obtain ⟨r, hr, hp⟩ := refSame a a hm
  rw [hr, hp.2 rfl]
theorem rd_cons0 (c : Int) (l : List Int) : rd (c :: l) 0 = c := rfl
theorem bytesOf_strOfNums (l : List Int) (h : ∀ x ∈ l, isByte x = true) : bytesOf (strOfNums l) = l := by
  unfold bytesOf strOfNums
  simp only [List.map_map]
  rw [List.map_congr_left (g := id)]
  · simp
  · intro x hx
    have := h x hx
    simp only [isByte, Bool.and_eq_true, decide_eq_true_eq] at this
    simp only [Function.comp, id]
    rw [UInt8.toNat_ofNat']
    omega
theorem strOfNums_bytesOf (s : ByteArray) : strOfNums (bytesOf s) = s := by
  apply ByteArray.ext
  apply Array.ext'
  simp only [strOfNums, bytesOf, List.map_map]
  rw [List.map_congr_left (g := id)]
  · simp
  · intro x hx
    simp
theorem bytesOf_isByte (s : ByteArray) : ∀ x ∈ bytesOf s, isByte x = true := by
  intro x hx
  simp only [bytesOf, List.mem_map] at hx
  obtain ⟨b, _, rfl⟩ := hx
  have := b.toNat_lt
  simp only [isByte, Bool.and_eq_true, decide_eq_true_eq]
  omega
theorem toList_empty : (⟨#[]⟩ : ByteArray).toList = [] := by decide +kernel
theorem empty_of (s : ByteArray) (h : s.toList.isEmpty = true) : s = ⟨#[]⟩ := by
  have h2 : s.toList = (⟨#[]⟩ : ByteArray).toList := by rw [toList_empty]; exact List.isEmpty_iff.mp h
  have h3 := ext39 (x := ⟨0, 0, s⟩) (y := ⟨0, 0, ⟨#[]⟩⟩) rfl rfl h2
  exact congrArg S39.f2 h3
theorem may0 : mayB z39 = true := by decide +kernel
theorem may1 (n : Int) (h : n = 0 ∨ n = 1) : mayB ⟨1, n, ⟨#[]⟩⟩ = true := by
  rcases h with rfl | rfl <;> decide +kernel
theorem may2 (n : Int) : mayB ⟨2, n, ⟨#[]⟩⟩ = true := by
  simp [mayB, toList_empty]
theorem leO_le {α : Type} {g : Nat → Option α} (hm : ∀ k, LeO (g k) (g (k + 1))) {m n : Nat} (h : m ≤ n) {r : α} (hr : g m = some r) : g n = some r := by
  induction n with
  | zero => obtain rfl : m = 0 := by omega
            exact hr
  | succ n ih =>
    by_cases e : m = n + 1
    · subst e; exact hr
    · exact hm n r (ih (by omega))
theorem okNum_of (l : List S39) (hw : ∀ x ∈ l, okVal x) : l.all okNum = true := by
  rw [List.all_eq_true]
  intro x hx
  obtain ⟨_, ⟨h1, h2⟩, _⟩ := hw x hx
  simp [okNum, h1, h2]
theorem append_f (l : List S39) (h : (encR l).length ≤ 1000000) (hn : l.all okNum = true) : key_Append.f [] l = some (if l.all mayB then (encR l, 0) else ([], 1)) := by
  unfold key_Append.f
  rw [if_pos ⟨by simp; omega, hn⟩]
  simp
theorem byte_all {l : List Int} (hw : ∀ x ∈ l, (Lit.int .u8 x).wf = true) : ∀ x ∈ l, isByte x = true := fun x hx => by
  have := byte_of_wf (hw x hx)
  unfold isByte
  simp only [Bool.and_eq_true, decide_eq_true_eq]
  exact this
end Go.Proofs.Ytlmcefhpnfoahaa.P
end

section
namespace Go.Proofs.Ytlmcefhpnfoahaa.P
open Go.RowKit Go.Proofs.YtlmcefhpnfoahaaW.PrintWords Go.Proofs.YtlmcefhpnfoahaaW.PrintLast Go.Proofs.YtlmcefhpnfoahaaW.PrintMore
set_option linter.unusedVariables false
set_option linter.unusedSimpArgs false

/-- A number's place in the row 0, -1, 1, .. -/
def zig (n : Int) : Int := if 0 ≤ n then 2 * n else -2 * n - 1
theorem xor_ones (a : Nat) (h : a < 18446744073709551616) : a ^^^ 18446744073709551615 = 18446744073709551615 - a := by
  have e : 18446744073709551615 - a = 2 ^ 64 - (a + 1) := by omega
  rw [e]
  apply Nat.eq_of_testBit_eq
  intro i
  rw [Nat.testBit_two_pow_sub_succ (by omega), Nat.testBit_xor, show 18446744073709551615 = 2 ^ 64 - 1 from rfl, Nat.testBit_two_pow_sub_one]
  by_cases hi : i < 64
  · simp [hi]
  · have : a.testBit i = false := Nat.testBit_lt_two_pow (Nat.lt_of_lt_of_le h (by
      show 2 ^ 64 ≤ 2 ^ i
      exact Nat.pow_le_pow_right (by decide) (by omega)))
    simp [hi, this]
theorem zig_range (n : Int) (h1 : -9223372036854775808 ≤ n) (h2 : n ≤ 9223372036854775807) : 0 ≤ zig n ∧ zig n ≤ 18446744073709551615 := by
  unfold zig
  split <;> omega
theorem zig_f (n : Int) (h1 : -9223372036854775808 ≤ n) (h2 : n ≤ 9223372036854775807) : varint_Zig.f n = some (zig n) := by
  unfold varint_Zig.f zig
  have hw : ∀ m : Int, IntKind.u64.wrap m = m % 18446744073709551616 := fun m => rfl
  simp only [hw]
  congr 1
  by_cases h0 : 0 ≤ n
  · rw [if_pos h0]
    have e1 : n % 18446744073709551616 * 2 % 18446744073709551616 = 2 * n := by omega
    have e2 : n / 9223372036854775808 % 18446744073709551616 = 0 := by omega
    rw [e1, e2, u64_xor _ _ (by omega) (by omega) (by omega) (by omega)]
    simp
    omega
  · rw [if_neg h0]
    have e1 : n % 18446744073709551616 * 2 % 18446744073709551616 = 2 * n + 18446744073709551616 := by omega
    have e2 : n / 9223372036854775808 % 18446744073709551616 = 18446744073709551615 := by omega
    rw [e1, e2, u64_xor _ _ (by omega) (by omega) (by omega) (by omega)]
    have e3 : (18446744073709551615 : Int).toNat = 18446744073709551615 := rfl
    rw [e3, xor_ones _ (by omega)]
    omega
def knownT (l : List Int) : Bool := l.all fun t => decide (1 ≤ t) && decide (t ≤ 3)
theorem known_l0 (l : List Int) (hl : l.length ≤ 1000000) : ∀ (d k i : Nat), i + d = l.length → d < k → row_known.l0 k l l.length i = some (knownT (l.drop i)) := by
  intro d
  induction d with
  | zero =>
    intro k i hi hk
    obtain ⟨k, rfl⟩ : ∃ j, k = j + 1 := ⟨k - 1, by omega⟩
    unfold row_known.l0
    (try dsimp only)
    rw [if_neg (by omega), List.drop_of_length_le (by omega)]
    rfl
  | succ d ih =>
    intro k i hi hk
    obtain ⟨k, rfl⟩ : ∃ j, k = j + 1 := ⟨k - 1, by omega⟩
    have hlt : i < l.length := by omega
    have e : rd l i = l[i] := by simp [rd, List.getD_eq_getElem?_getD, List.getElem?_eq_getElem hlt]
    unfold row_known.l0
    (try dsimp only)
    rw [if_pos (by omega), if_pos (by omega), if_pos (by omega), List.drop_eq_getElem_cons hlt]
    unfold knownT at ih ⊢
    rw [List.all_cons, e]
    by_cases h1 : l[i] < 1
    · rw [if_pos h1, decide_eq_false (by omega)]
      rfl
    · rw [if_neg h1]
      by_cases h3 : l[i] > 3
      · rw [if_pos h3, decide_eq_false (by omega : ¬ l[i] ≤ 3)]
        simp
      · have w : wrap64 ((i : Int) + 1) = ((i + 1 : Nat) : Int) := w64s i (by omega)
        rw [if_neg h3, w, ih k (i + 1) (by omega) (by omega), decide_eq_true (by omega : (1 : Int) ≤ l[i]), decide_eq_true (by omega : l[i] ≤ 3)]
        rfl
theorem known_f (l : List Int) (hl : l.length ≤ 1000000) : row_known.f (l.length + 1) l = some (knownT l) := by
  have := known_l0 l hl l.length (l.length + 1) 0 (by omega) (by omega)
  unfold row_known.f
  simpa using this
def rowMay (t : Int) (x : S39) : Bool := mayB x && (x.f0 == 0 || x.f0 == t)
theorem encV_len (x : S39) : (encV x).length ≤ 2 * x.f2.size + 10 := by
  have he : ∀ l : List Int, (esc l).length ≤ 2 * l.length := by
    intro l
    induction l with
    | nil => simp [esc]
    | cons c r ih => simp only [esc]; split <;> simp <;> omega
  have := he (bytesOf x.f2)
  rw [bytesOf_length] at this
  unfold encV
  split
  · simp
  · split
    · simp
    · split
      · simp [be8_length]
      · simp; omega
theorem rowMay_f (t : Int) (x : S39) (hn : okNum x = true) (hs : x.f2.size ≤ 400000) : row_may.f t x.f0 x.f1 x.f2 = some (rowMay t x) := by
  unfold row_may.f
  have hl : (encR [x]).length ≤ 1000000 := by
    have := encV_len x
    simp [encR]
    omega
  rw [show (⟨x.f0, x.f1, x.f2⟩ : S39) = x from rfl, append_f [x] hl (by simp [hn]), Option.bind_some]
  unfold rowMay
  simp only [List.all_cons, List.all_nil, Bool.and_true]
  by_cases hm : mayB x = true
  · rw [if_pos hm, hm]
    simp only [if_true]
    by_cases h0 : x.f0 = 0
    · rw [if_pos h0, h0]; rfl
    · rw [if_neg h0]
      simp [h0]
  · rw [if_neg hm]
    simp [hm]
/-- A value's bytes. -/
def enc1 (x : S39) : List Int := if x.f0 = 1 then [x.f1 % 256] else if x.f0 = 2 then vput 9 (zig x.f1) else vput 9 x.f2.size ++ bytesOf x.f2
end Go.Proofs.Ytlmcefhpnfoahaa.P
end

section
namespace Go.Proofs.Ytlmcefhpnfoahaa.P
open Go.RowKit Go.Proofs.YtlmcefhpnfoahaaW.PrintWords Go.Proofs.YtlmcefhpnfoahaaW.PrintLast Go.Proofs.YtlmcefhpnfoahaaW.PrintMore
set_option linter.unusedVariables false
set_option linter.unusedSimpArgs false

/-- Whose place it is. -/
def zag (u : Int) : Int := if u % 2 = 0 then u / 2 else - (u / 2) - 1
theorem zag_zig (n : Int) : zag (zig n) = n := by
  unfold zag zig
  split
  · rw [if_pos (by omega)]; omega
  · rw [if_neg (by omega)]; omega
theorem zig_zag (u : Int) (h : 0 ≤ u) : zig (zag u) = u := by
  unfold zag zig
  split
  · rw [if_pos (by omega)]; omega
  · rw [if_neg (by omega)]; omega
theorem zag_range (u : Int) (h0 : 0 ≤ u) (h1 : u ≤ 18446744073709551615) : -9223372036854775808 ≤ zag u ∧ zag u ≤ 9223372036854775807 := by
  unfold zag
  split <;> omega
/-- A value of a type that bytes begin with. -/
def getV (t : Int) (l : List Int) : S39 × Int × Int := if t = 1 then getBool l else if t = 2 then getInt (vget l) (zag (vget l).1) else getText l (vget l)
def nulV (x : S39) : Bool := x.f0 == 0
/-- Values of types, behind the nulls' bits. -/
def getVals (nul : Nat → Bool) : List Int → Nat → List Int → List S39 × List Int × Int
  | [], _, r => ([], r, 0)
  | t :: ts, i, r => if nul i then (z39 :: (getVals nul ts (i + 1) r).1, (getVals nul ts (i + 1) r).2) else if (getV t r).2.2 = 0 then ((getV t r).1 :: (getVals nul ts (i + 1) (r.drop (getV t r).2.1.toNat)).1, (getVals nul ts (i + 1) (r.drop (getV t r).2.1.toNat)).2) else ([], [], (getV t r).2.2)
/-- Is a bit behind the n-th set? -/
def loose (b : List Int) (n : Nat) : Bool := (List.range (8 * ((n + 7) / 8) - n)).any fun j => bitAt b (n + j)
def getRow (t b : List Int) : List S39 × Int :=
  if knownT t = false then ([], 1) else if b.length < (t.length + 7) / 8 then ([], 20) else if loose b t.length = true then ([], 21)
  else if (getVals (bitAt b) t 0 (b.drop ((t.length + 7) / 8))).2.2 ≠ 0 then ([], (getVals (bitAt b) t 0 (b.drop ((t.length + 7) / 8))).2.2)
  else if (getVals (bitAt b) t 0 (b.drop ((t.length + 7) / 8))).2.1.length > 0 then ([], 21) else ((getVals (bitAt b) t 0 (b.drop ((t.length + 7) / 8))).1, 0)
/-- A row's bytes. -/
def encVals (l : List S39) : List Int := l.flatMap fun x => if x.f0 = 0 then [] else enc1 x
def encRow (l : List S39) : List Int := lay (fun i => nulV (rd_T39 l i)) l.length ++ encVals l
/-- Do values fit types? -/
def fit : List Int → List S39 → Bool
  | [], [] => true
  | t :: ts, x :: xs => rowMay t x && fit ts xs
  | _, _ => false
def putRow (t : List Int) (l : List S39) : List Int × Int := if knownT t = true ∧ fit t l = true then (encRow l, 0) else ([], 1)
theorem mayB_cases (x : S39) (h : mayB x = true) : (x.f0 = 0 ∧ x = z39) ∨ (x.f0 = 1 ∧ (x.f1 = 0 ∨ x.f1 = 1) ∧ x = ⟨1, x.f1, ⟨#[]⟩⟩) ∨ (x.f0 = 2 ∧ x = ⟨2, x.f1, ⟨#[]⟩⟩) ∨ (x.f0 = 3 ∧ x = ⟨3, 0, x.f2⟩) := by
  obtain ⟨k, n, s⟩ := x
  simp only [mayB, Bool.or_eq_true, Bool.and_eq_true, beq_iff_eq] at h
  rcases h with ((⟨⟨rfl, rfl⟩, h⟩ | ⟨⟨rfl, hn⟩, h⟩) | ⟨rfl, h⟩) | ⟨rfl, rfl⟩
  · left; rw [empty_of s h]; exact ⟨rfl, rfl⟩
  · right; left; rw [empty_of s h]; exact ⟨rfl, hn, rfl⟩
  · right; right; left; rw [empty_of s h]; exact ⟨rfl, rfl⟩
  · right; right; right; exact ⟨rfl, rfl⟩
theorem enc1_bytes (x : S39) (hn : okNum x = true) (hs : x.f2.size ≤ 1000000) : ∀ c ∈ enc1 x, isByte c = true := by
  have h64 : (2 : Int) * 128 ^ 9 = 18446744073709551616 := by decide
  unfold enc1
  split
  · intro c hc
    simp at hc; subst hc; simp [isByte]; omega
  · split
    · simp only [okNum, Bool.and_eq_true, decide_eq_true_eq] at hn
      obtain ⟨z0, z1⟩ := zig_range x.f1 hn.1 hn.2
      exact vput_bytes 9 _ z0 (by omega)
    · intro c hc
      rcases List.mem_append.mp hc with h | h
      · exact vput_bytes 9 _ (by omega) (by omega) c h
      · exact bytesOf_isByte _ c h
theorem rd_hd (c : Int) (l : List Int) : rd (c :: l) 0 = c := rfl
theorem getV_enc (t : Int) (x : S39) (r : List Int) (hm : mayB x = true) (hn : okNum x = true) (hs : x.f2.size ≤ 1000000) (ht : x.f0 = t) (h0 : x.f0 ≠ 0) : getV t (enc1 x ++ r) = (x, ((enc1 x).length : Int), 0) := by
  subst ht
  simp only [okNum, Bool.and_eq_true, decide_eq_true_eq] at hn
  rcases mayB_cases x hm with ⟨e, _⟩ | ⟨e, hv, e2⟩ | ⟨e, e2⟩ | ⟨e, e2⟩
  · exact absurd e h0
  · have he : enc1 x = [x.f1] := by
      unfold enc1
      rw [if_pos e]
      congr 1; omega
    unfold getV
    rw [if_pos e, he]
    unfold getBool
    rw [if_neg (by simp), show rd ([x.f1] ++ r) 0 = x.f1 from rfl, if_neg (by omega), ← e2]
    rfl
  · have he : enc1 x = vput 9 (zig x.f1) := by
      unfold enc1
      rw [if_neg (by omega), if_pos e]
    obtain ⟨z0, z1⟩ := zig_range x.f1 hn.1 hn.2
    unfold getV
    rw [if_neg (by omega), if_pos e, he, vget_vput _ r z0 z1]
    unfold getInt
    rw [if_neg (by simp), zag_zig, ← e2]
  · have he : enc1 x = vput 9 x.f2.size ++ bytesOf x.f2 := by
      unfold enc1
      rw [if_neg (by omega), if_neg (by omega)]
    unfold getV
    rw [if_neg (by omega), if_neg (by omega), he, List.append_assoc, vget_vput _ _ (by omega) (by omega)]
    unfold getText
    have hL : (bytesOf x.f2).length = x.f2.size := bytesOf_length _
    obtain ⟨V, hV⟩ : ∃ V, V = vput 9 (x.f2.size : Int) := ⟨_, rfl⟩
    rw [← hV]
    rw [if_neg (by simp), if_neg (by simp; omega)]
    have e3 : (((V ++ (bytesOf x.f2 ++ r)).take ((V.length : Int) + (x.f2.size : Int)).toNat).drop (V.length : Int).toNat) = bytesOf x.f2 := by
      rw [show ((V.length : Int) + (x.f2.size : Int)).toNat = (V ++ bytesOf x.f2).length by rw [List.length_append, hL]; omega, ← List.append_assoc, List.take_left, Int.toNat_natCast, List.drop_left]
    dsimp only
    rw [e3, strOfNums_bytesOf, ← e2, List.length_append, hL]
    simp
theorem enc_getV (t : Int) (ht : t = 1 ∨ t = 2 ∨ t = 3) (l : List Int) (hb : ∀ x ∈ l, isByte x = true) (h : (getV t l).2.2 = 0) :
    ∃ r, l = enc1 (getV t l).1 ++ r ∧ (getV t l).2.1 = ((enc1 (getV t l).1).length : Int) ∧ (getV t l).1.f0 = t ∧ mayB (getV t l).1 = true ∧ okNum (getV t l).1 = true ∧ (getV t l).1.f2.size ≤ l.length := by
  rcases ht with rfl | rfl | rfl
  · have e : getV 1 l = getBool l := by unfold getV; rw [if_pos rfl]
    rw [e] at h ⊢
    unfold getBool at h ⊢
    split at h
    · simp at h
    · rename_i h0
      split at h
      · simp at h
      · rename_i h1
        rw [if_neg h0, if_neg h1]
        cases l with
        | nil => simp at h0
        | cons c r =>
          rw [rd_hd] at h1 ⊢
          have hc := hb c (by simp)
          simp only [isByte, Bool.and_eq_true, decide_eq_true_eq] at hc
          have he : enc1 ⟨1, c, ⟨#[]⟩⟩ = [c] := by
            unfold enc1
            rw [if_pos rfl]
            dsimp only
            congr 1; omega
          refine ⟨r, by rw [he]; rfl, by rw [he]; rfl, rfl, may1 c (by omega), by simp [okNum]; omega, Nat.zero_le _⟩
  · have e : getV 2 l = getInt (vget l) (zag (vget l).1) := by unfold getV; rw [if_neg (by decide), if_pos rfl]
    rw [e] at h ⊢
    unfold getInt at h ⊢
    split at h
    · rename_i hx; exact absurd h hx
    · rename_i hx
      rw [if_neg hx]
      have hx' : (vget l).2.2 = 0 := by omega
      obtain ⟨r, g1, g2, g3, g4⟩ := vput_vget l hb hx'
      obtain ⟨z0, z1⟩ := zag_range _ g3 g4
      have he : enc1 ⟨2, zag (vget l).1, ⟨#[]⟩⟩ = vput 9 (vget l).1 := by
        unfold enc1
        rw [if_neg (by simp), if_pos rfl]
        dsimp only
        rw [zig_zag _ g3]
      refine ⟨r, by rw [he]; exact g1, by rw [he]; exact g2, rfl, may2 _, by simp [okNum]; omega, Nat.zero_le _⟩
  · have e : getV 3 l = getText l (vget l) := by unfold getV; rw [if_neg (by decide), if_neg (by decide)]
    rw [e] at h ⊢
    unfold getText at h ⊢
    split at h
    · rename_i hx; exact absurd h hx
    · rename_i hx
      split at h
      · simp at h
      · rename_i hy
        rw [if_neg hx, if_neg hy]
        have hx' : (vget l).2.2 = 0 := by omega
        obtain ⟨r, g1, g2, g3, g4⟩ := vput_vget l hb hx'
        obtain ⟨V, hV⟩ : ∃ V, V = vput 9 (vget l).1 := ⟨_, rfl⟩
        rw [← hV] at g1 g2
        generalize hu : (vget l).1 = u at *
        generalize hj : (vget l).2.1 = j at *
        have hlen : l.length = V.length + r.length := by rw [g1, List.length_append]
        have hur : u ≤ r.length := by omega
        have e3 : ((l.take (j + u).toNat).drop j.toNat) = r.take u.toNat := by
          rw [g2, g1, show ((V.length : Int) + u).toNat = V.length + u.toNat by omega, List.take_length_add_append, Int.toNat_natCast, List.drop_left]
        have hrb : ∀ x ∈ r.take u.toNat, isByte x = true := fun x hx => hb x (by rw [g1]; exact List.mem_append_right _ (List.mem_of_mem_take hx))
        dsimp only
        rw [e3]
        have hsz : (strOfNums (r.take u.toNat)).size = u.toNat := by
          rw [← bytesOf_length, bytesOf_strOfNums _ hrb, List.length_take]; omega
        have he : enc1 ⟨3, 0, strOfNums (r.take u.toNat)⟩ = V ++ r.take u.toNat := by
          unfold enc1
          rw [if_neg (by simp), if_neg (by simp)]
          dsimp only
          rw [hsz, bytesOf_strOfNums _ hrb, Int.toNat_of_nonneg g3, hV]
        refine ⟨r.drop u.toNat, by rw [he, List.append_assoc, List.take_append_drop]; exact g1, ?_, rfl, by simp [mayB], by simp [okNum], ?_⟩
        · rw [he, List.length_append, List.length_take, g2]; omega
        · show (strOfNums _).size ≤ _
          rw [hsz]; omega
theorem getV_short (t : Int) (x : S39) (m : Nat) (hm : mayB x = true) (ht : x.f0 = t) (h0 : x.f0 ≠ 0) (hn : okNum x = true) (hs : x.f2.size ≤ 1000000) (h : m < (enc1 x).length) : (getV t ((enc1 x).take m)).2.2 = 20 := by
  subst ht
  simp only [okNum, Bool.and_eq_true, decide_eq_true_eq] at hn
  rcases mayB_cases x hm with ⟨e, _⟩ | ⟨e, hv, e2⟩ | ⟨e, e2⟩ | ⟨e, e2⟩
  · exact absurd e h0
  · have he : enc1 x = [x.f1 % 256] := by
      unfold enc1
      rw [if_pos e]
    rw [he] at h ⊢
    obtain rfl : m = 0 := by simp at h; exact h
    unfold getV
    rw [if_pos e]
    rfl
  · have he : enc1 x = vput 9 (zig x.f1) := by
      unfold enc1
      rw [if_neg (by omega), if_pos e]
    rw [he] at h ⊢
    unfold getV
    have := vg_short 9 (zig x.f1) m h
    rw [if_neg (by omega), if_pos e]
    unfold vget getInt
    rw [this]
    rfl
  · have he : enc1 x = vput 9 x.f2.size ++ bytesOf x.f2 := by
      unfold enc1
      rw [if_neg (by omega), if_neg (by omega)]
    rw [he] at h ⊢
    have hL : (bytesOf x.f2).length = x.f2.size := bytesOf_length _
    unfold getV
    rw [if_neg (by omega), if_neg (by omega)]
    by_cases hp : m < (vput 9 (x.f2.size : Int)).length
    · have := vg_short 9 (x.f2.size : Int) m hp
      rw [List.take_append_of_le_length (by omega)]
      unfold vget getText
      rw [this]
      rfl
    · obtain ⟨d, rfl⟩ : ∃ d, m = (vput 9 (x.f2.size : Int)).length + d := ⟨m - (vput 9 (x.f2.size : Int)).length, by omega⟩
      rw [List.take_length_add_append, vget_vput _ _ (by omega) (by omega)]
      unfold getText
      rw [List.length_append] at h
      rw [if_neg (by simp), if_pos (by simp; omega)]
theorem rdT_zero (x : S39) (l : List S39) : rd_T39 (x :: l) (0 : Nat) = x := rfl
theorem rdT_succ (x : S39) (l : List S39) (j : Nat) : rd_T39 (x :: l) ((j + 1 : Nat) : Int) = rd_T39 l (j : Int) := by
  simp [rd_T39]
theorem known_cons {t : Int} {ts : List Int} (h : knownT (t :: ts) = true) : (t = 1 ∨ t = 2 ∨ t = 3) ∧ knownT ts = true := by
  unfold knownT at h
  rw [List.all_cons, Bool.and_eq_true] at h
  obtain ⟨h1, h2⟩ := h
  simp only [Bool.and_eq_true, decide_eq_true_eq] at h1
  exact ⟨by omega, h2⟩
/-- Values that are told: of 64 bits, and not too long. -/
def okV (x : S39) : Prop := okNum x = true ∧ x.f2.size ≤ 1000000
theorem getVals_enc (nul : Nat → Bool) (r : List Int) : ∀ (ts : List Int) (l : List S39) (i : Nat), knownT ts = true → fit ts l = true → (∀ x ∈ l, okV x) → (∀ j, j < l.length → nul (i + j) = nulV (rd_T39 l j)) → getVals nul ts i (encVals l ++ r) = (l, r, 0) := by
  intro ts
  induction ts with
  | nil =>
    intro l i _ hf _ _
    cases l with
    | nil => rfl
    | cons x l => cases hf
  | cons t ts ih =>
    intro l i hk hf ho hn
    cases l with
    | nil => cases hf
    | cons x l =>
      unfold fit at hf
      rw [Bool.and_eq_true] at hf
      obtain ⟨hm, hf⟩ := hf
      obtain ⟨ht, hk⟩ := known_cons hk
      have hn0 := hn 0 (by simp)
      rw [rdT_zero, Nat.add_zero] at hn0
      have hn' : ∀ j, j < l.length → nul (i + 1 + j) = nulV (rd_T39 l j) := fun j hj => by
        have := hn (j + 1) (by simp; omega)
        rw [rdT_succ] at this
        rw [← this]
        congr 1; omega
      have hi := ih l (i + 1) hk hf (fun y hy => ho y (by simp [hy])) hn'
      unfold rowMay at hm
      rw [Bool.and_eq_true, Bool.or_eq_true, beq_iff_eq, beq_iff_eq] at hm
      obtain ⟨hm, h0⟩ := hm
      obtain ⟨ho1, ho2⟩ := ho x (by simp)
      unfold getVals
      by_cases hz : x.f0 = 0
      · obtain e : x = z39 := by rcases mayB_cases x hm with ⟨_, e⟩ | ⟨e, _⟩ | ⟨e, _⟩ | ⟨e, _⟩ <;> first | exact e | omega
        have ev : encVals (x :: l) = encVals l := by simp [encVals, hz]
        have hb : nul i = true := by rw [hn0]; simp [nulV, hz]
        rw [ev, if_pos hb, hi, ← e]
      · have ev : encVals (x :: l) = enc1 x ++ encVals l := by simp [encVals, hz]
        have hb : nul i = false := by rw [hn0]; simp [nulV, hz]
        rw [ev, if_neg (by rw [hb]; decide), List.append_assoc, getV_enc t x _ hm ho1 ho2 (by omega) hz]
        dsimp only
        rw [if_pos rfl, Int.toNat_natCast, List.drop_left, hi]
theorem enc_getVals (nul : Nat → Bool) : ∀ (ts : List Int) (i : Nat) (r : List Int), knownT ts = true → (∀ x ∈ r, isByte x = true) → (getVals nul ts i r).2.2 = 0 →
    r = encVals (getVals nul ts i r).1 ++ (getVals nul ts i r).2.1 ∧ fit ts (getVals nul ts i r).1 = true ∧ (getVals nul ts i r).1.length = ts.length ∧ (∀ x ∈ (getVals nul ts i r).1, okNum x = true ∧ x.f2.size ≤ r.length) ∧ (∀ j, j < ts.length → nul (i + j) = nulV (rd_T39 (getVals nul ts i r).1 j)) := by
  intro ts
  induction ts with
  | nil =>
    intro i r _ _ _
    exact ⟨rfl, rfl, rfl, (by intro x hx; cases hx), (by intro j hj; cases hj)⟩
  | cons t ts ih =>
    intro i r hk hb h
    obtain ⟨ht, hk⟩ := known_cons hk
    unfold getVals at h ⊢
    by_cases hn : nul i = true
    · rw [if_pos hn] at h ⊢
      obtain ⟨g1, g2, g3, g4, g5⟩ := ih (i + 1) r hk hb h
      generalize hG : getVals nul ts (i + 1) r = G at *
      refine ⟨?_, ?_, by simp [g3], ?_, ?_⟩
      · have ev : encVals (z39 :: G.1) = encVals G.1 := by simp [encVals, z39]
        dsimp only
        rw [ev]
        exact g1
      · show (rowMay t z39 && fit ts G.1) = true
        rw [g2]
        have : rowMay t z39 = true := by unfold rowMay; rw [may0]; rfl
        rw [this]; rfl
      · intro x hx
        rcases List.mem_cons.mp hx with rfl | hx
        · exact ⟨rfl, Nat.zero_le _⟩
        · exact g4 x hx
      · intro j hj
        cases j with
        | zero => rw [Nat.add_zero, hn]; rfl
        | succ j =>
          have := g5 j (by simpa using hj)
          dsimp only
          rw [rdT_succ, ← this]
          congr 1; omega
    · rw [if_neg hn] at h ⊢
      by_cases he : (getV t r).2.2 = 0
      · rw [if_pos he] at h ⊢
        obtain ⟨r', k1, k2, k3, k4, k5, k6⟩ := enc_getV t ht r hb he
        generalize hV : getV t r = V at *
        have hd : r.drop V.2.1.toNat = r' := by rw [k2, Int.toNat_natCast]; exact (congrArg (List.drop _) k1).trans (List.drop_left ..)
        rw [hd] at h ⊢
        have hb' : ∀ x ∈ r', isByte x = true := fun x hx => hb x (by rw [k1]; exact List.mem_append_right _ hx)
        obtain ⟨g1, g2, g3, g4, g5⟩ := ih (i + 1) r' hk hb' h
        generalize hG : getVals nul ts (i + 1) r' = G at *
        have hz : ¬ V.1.f0 = 0 := by omega
        have hl : r.length = (enc1 V.1).length + r'.length := by rw [k1, List.length_append]
        refine ⟨?_, ?_, by simp [g3], ?_, ?_⟩
        · have ev : encVals (V.1 :: G.1) = enc1 V.1 ++ encVals G.1 := by simp [encVals, hz]
          dsimp only
          rw [ev, List.append_assoc, ← g1]
          exact k1
        · show (rowMay t V.1 && fit ts G.1) = true
          rw [g2]
          have : rowMay t V.1 = true := by unfold rowMay; rw [k4, k3]; simp
          rw [this]; rfl
        · intro x hx
          rcases List.mem_cons.mp hx with rfl | hx
          · exact ⟨k5, k6⟩
          · exact ⟨(g4 x hx).1, by have := (g4 x hx).2; omega⟩
        · intro j hj
          cases j with
          | zero =>
            rw [Nat.add_zero]
            show nul i = nulV V.1
            rw [Bool.eq_false_iff.mpr hn]
            simp [nulV, hz]
          | succ j =>
            have := g5 j (by simpa using hj)
            dsimp only
            rw [rdT_succ, ← this]
            congr 1; omega
      · rw [if_neg he] at h
        exact absurd h he
theorem getVals_short (nul : Nat → Bool) : ∀ (ts : List Int) (l : List S39) (i m : Nat), knownT ts = true → fit ts l = true → (∀ x ∈ l, okV x) → (∀ j, j < l.length → nul (i + j) = nulV (rd_T39 l j)) → m < (encVals l).length → (getVals nul ts i ((encVals l).take m)).2.2 = 20 := by
  intro ts
  induction ts with
  | nil =>
    intro l i m _ hf _ _ h
    cases l with
    | nil => simp [encVals] at h
    | cons x l => cases hf
  | cons t ts ih =>
    intro l i m hk hf ho hn h
    cases l with
    | nil => cases hf
    | cons x l =>
      unfold fit at hf
      rw [Bool.and_eq_true] at hf
      obtain ⟨hm, hf⟩ := hf
      obtain ⟨ht, hk⟩ := known_cons hk
      have hn0 := hn 0 (by simp)
      rw [rdT_zero, Nat.add_zero] at hn0
      have hn' : ∀ j, j < l.length → nul (i + 1 + j) = nulV (rd_T39 l j) := fun j hj => by
        have := hn (j + 1) (by simp; omega)
        rw [rdT_succ] at this
        rw [← this]
        congr 1; omega
      have hi := fun m => ih l (i + 1) m hk hf (fun y hy => ho y (by simp [hy])) hn'
      unfold rowMay at hm
      rw [Bool.and_eq_true, Bool.or_eq_true, beq_iff_eq, beq_iff_eq] at hm
      obtain ⟨hm, h0⟩ := hm
      obtain ⟨ho1, ho2⟩ := ho x (by simp)
      unfold getVals
      by_cases hz : x.f0 = 0
      · have ev : encVals (x :: l) = encVals l := by simp [encVals, hz]
        have hb : nul i = true := by rw [hn0]; simp [nulV, hz]
        rw [ev] at h ⊢
        rw [if_pos hb]
        exact hi m h
      · have ev : encVals (x :: l) = enc1 x ++ encVals l := by simp [encVals, hz]
        have hb : nul i = false := by rw [hn0]; simp [nulV, hz]
        rw [ev] at h ⊢
        rw [if_neg (by rw [hb]; decide)]
        by_cases hp : m < (enc1 x).length
        · rw [List.take_append_of_le_length (by omega)]
          have hg := getV_short t x m hm (by omega) hz ho1 ho2 hp
          rw [if_neg (by rw [hg]; decide)]
          exact hg
        · obtain ⟨d, rfl⟩ : ∃ d, m = (enc1 x).length + d := ⟨m - (enc1 x).length, by omega⟩
          rw [List.take_length_add_append, getV_enc t x _ hm ho1 ho2 (by omega) hz]
          dsimp only
          rw [if_pos rfl, Int.toNat_natCast, List.drop_left]
          rw [List.length_append] at h
          exact hi d (by omega)
theorem getVals_err (nul : Nat → Bool) : ∀ (ts : List Int) (i : Nat) (r : List Int), (getVals nul ts i r).2.2 = 0 ∨ (getVals nul ts i r).2.2 = 20 ∨ (getVals nul ts i r).2.2 = 21 := by
  have hv : ∀ l : List Int, (vget l).2.2 = 0 ∨ (vget l).2.2 = 20 ∨ (vget l).2.2 = 21 := by
    intro l
    by_cases h : (vget l).2.2 = 0
    · exact Or.inl h
    · rcases vg_err 9 l h with e | e
      · right; left; show (vg 9 l).2.2 = 20; rw [e]
      · right; right; show (vg 9 l).2.2 = 21; rw [e]
  have hg : ∀ (t : Int) (l : List Int), (getV t l).2.2 = 0 ∨ (getV t l).2.2 = 20 ∨ (getV t l).2.2 = 21 := by
    intro t l
    unfold getV getBool getInt getText
    split
    · split
      · right; left; rfl
      · split
        · right; right; rfl
        · left; rfl
    · split
      · split
        · exact hv l
        · left; rfl
      · split
        · exact hv l
        · split
          · right; left; rfl
          · left; rfl
  intro ts
  induction ts with
  | nil => intro i r; left; rfl
  | cons t ts ih =>
    intro i r
    unfold getVals
    split
    · exact ih _ _
    · split
      · exact ih _ _
      · exact hg _ _
theorem fit_length : ∀ (t : List Int) (l : List S39), fit t l = true → l.length = t.length := by
  intro t
  induction t with
  | nil => intro l h; cases l with
    | nil => rfl
    | cons x l => cases h
  | cons a t ih => intro l h; cases l with
    | nil => cases h
    | cons x l =>
      unfold fit at h
      rw [Bool.and_eq_true] at h
      simp [ih l h.2]
theorem getRow_head (l : List S39) (r : List Int) (n : Nat) (hn : l.length = n) : (encRow l ++ r).length ≥ (n + 7) / 8 ∧ loose (encRow l ++ r) n = false ∧ (encRow l ++ r).drop ((n + 7) / 8) = encVals l ++ r ∧ (∀ j, j < n → bitAt (encRow l ++ r) j = nulV (rd_T39 l j)) := by
  subst hn
  have hl := lay_length (fun i : Nat => nulV (rd_T39 l i)) l.length
  obtain ⟨H, hH⟩ : ∃ H, H = lay (fun i : Nat => nulV (rd_T39 l i)) l.length := ⟨_, rfl⟩
  have hE : encRow l ++ r = H ++ (encVals l ++ r) := by unfold encRow; rw [← hH, List.append_assoc]
  rw [← hH] at hl
  have hbit : ∀ j, j < 8 * H.length → bitAt (H ++ (encVals l ++ r)) j = (decide (j < l.length) && nulV (rd_T39 l j)) := fun j hj => by
    rw [bitAt_append _ _ _ hj, hH, lay_bit]
  rw [hE]
  refine ⟨by rw [List.length_append]; omega, ?_, ?_, ?_⟩
  · unfold loose
    rw [List.any_eq_false]
    intro j hj
    rw [List.mem_range] at hj
    rw [hbit _ (by omega), decide_eq_false (by omega), Bool.false_and]
    decide
  · rw [← hl, List.drop_left]
  · intro j hj
    rw [hbit _ (by omega)]
    simp [hj]
theorem get_put (t : List Int) (l : List S39) (hk : knownT t = true) (hf : fit t l = true) (ho : ∀ x ∈ l, okV x) (r : List Int) : getRow t (encRow l ++ r) = if r = [] then (l, 0) else ([], 21) := by
  have hL := fit_length t l hf
  obtain ⟨h1, h2, h3, h4⟩ := getRow_head l r t.length hL
  unfold getRow
  rw [if_neg (by rw [hk]; decide), if_neg (by omega), if_neg (by rw [h2]; decide), h3, getVals_enc _ r t l 0 hk hf ho (fun j hj => by rw [Nat.zero_add]; exact h4 j (by omega))]
  dsimp only
  rw [if_neg (by simp)]
  by_cases hr : r = []
  · subst hr; rfl
  · rw [if_neg hr, if_pos (List.length_pos_iff.mpr hr)]
theorem get_short (t : List Int) (l : List S39) (hk : knownT t = true) (hf : fit t l = true) (ho : ∀ x ∈ l, okV x) (m : Nat) (h : m < (encRow l).length) : getRow t ((encRow l).take m) = ([], 20) := by
  have hL := fit_length t l hf
  have hl := lay_length (fun i : Nat => nulV (rd_T39 l i)) l.length
  unfold getRow
  rw [if_neg (by rw [hk]; decide)]
  by_cases hm : m < (t.length + 7) / 8
  · rw [if_pos (by rw [List.length_take]; omega)]
  · have hle : ((lay (fun i : Nat => nulV (rd_T39 l i)) l.length)).length = (t.length + 7) / 8 := by rw [hl, hL]
    obtain ⟨d, rfl⟩ : ∃ d, m = ((lay (fun i : Nat => nulV (rd_T39 l i)) l.length)).length + d := ⟨m - (t.length + 7) / 8, by rw [hle]; omega⟩
    have hT : (encRow l).take (((lay (fun i : Nat => nulV (rd_T39 l i)) l.length)).length + d) = lay (fun i : Nat => nulV (rd_T39 l i)) l.length ++ (encVals l).take d := by unfold encRow; rw [List.take_length_add_append]
    unfold encRow at h
    rw [List.length_append] at h
    rw [hT]
    have hbit : ∀ j, j < 8 * ((t.length + 7) / 8) → bitAt (lay (fun i : Nat => nulV (rd_T39 l i)) l.length ++ (encVals l).take d) j = (decide (j < l.length) && nulV (rd_T39 l j)) := fun j hj => by
      rw [bitAt_append _ _ _ (by omega), lay_bit]
    have hlo : loose (lay (fun i : Nat => nulV (rd_T39 l i)) l.length ++ (encVals l).take d) t.length = false := by
      unfold loose
      rw [List.any_eq_false]
      intro j hj
      rw [List.mem_range] at hj
      rw [hbit _ (by omega), decide_eq_false (by omega), Bool.false_and]
      decide
    rw [if_neg (by rw [List.length_append]; omega), if_neg (by rw [hlo]; decide), ← hle, List.drop_left]
    have hg := getVals_short (bitAt (lay (fun i : Nat => nulV (rd_T39 l i)) l.length ++ (encVals l).take d)) t l 0 d hk hf ho (fun j hj => by rw [Nat.zero_add, hbit _ (by omega)]; simp [hj]) (by omega)
    rw [if_pos (by rw [hg]; decide), hg]
theorem put_get (t b : List Int) (hb : ∀ x ∈ b, isByte x = true) (h : (getRow t b).2 = 0) : knownT t = true ∧ fit t (getRow t b).1 = true ∧ encRow (getRow t b).1 = b ∧ (∀ x ∈ (getRow t b).1, okNum x = true ∧ x.f2.size ≤ b.length) := by
  unfold getRow at h ⊢
  by_cases h1 : knownT t = false
  · rw [if_pos h1] at h; simp at h
  rw [if_neg h1] at h ⊢
  by_cases h2 : b.length < (t.length + 7) / 8
  · rw [if_pos h2] at h; simp at h
  rw [if_neg h2] at h ⊢
  by_cases h3 : loose b t.length = true
  · rw [if_pos h3] at h; simp at h
  rw [if_neg h3] at h ⊢
  by_cases h4 : (getVals (bitAt b) t 0 (b.drop ((t.length + 7) / 8))).2.2 ≠ 0
  · rw [if_pos h4] at h; exact absurd h h4
  rw [if_neg h4] at h ⊢
  by_cases h5 : (getVals (bitAt b) t 0 (b.drop ((t.length + 7) / 8))).2.1.length > 0
  · rw [if_pos h5] at h; simp at h
  rw [if_neg h5] at h ⊢
  have hk : knownT t = true := by simpa using h1
  obtain ⟨g1, g2, g3, g4, g5⟩ := enc_getVals (bitAt b) t 0 (b.drop ((t.length + 7) / 8)) hk (fun x hx => hb x (List.mem_of_mem_drop hx)) (by simpa using h4)
  generalize getVals (bitAt b) t 0 (b.drop ((t.length + 7) / 8)) = G at *
  have h6 : G.2.1 = [] := List.eq_nil_of_length_eq_zero (by omega)
  rw [h6, List.append_nil] at g1
  refine ⟨hk, g2, ?_, fun x hx => ⟨(g4 x hx).1, by have := (g4 x hx).2; rw [List.length_drop] at this; omega⟩⟩
  unfold encRow
  dsimp only
  rw [← g1]
  have hlay : lay (fun i : Nat => nulV (rd_T39 G.1 i)) G.1.length = b.take ((t.length + 7) / 8) := by
    rw [g3]
    have htl : (b.take ((t.length + 7) / 8)).length = (t.length + 7) / 8 := by rw [List.length_take]; omega
    have hbt : ∀ j, j < 8 * ((t.length + 7) / 8) → bitAt (b.take ((t.length + 7) / 8)) j = bitAt b j := fun j hj => by
      have := bitAt_append (b.take ((t.length + 7) / 8)) (b.drop ((t.length + 7) / 8)) j (by omega)
      rw [List.take_append_drop] at this
      exact this.symm
    apply lay_of _ _ (fun x hx => hb x (List.mem_of_mem_take hx)) htl
    · intro j hj hj2
      rw [htl] at hj2
      rw [hbt j hj2]
      unfold loose at h3
      rw [Bool.not_eq_true, List.any_eq_false] at h3
      have := h3 (j - t.length) (List.mem_range.mpr (by omega))
      rw [show t.length + (j - t.length) = j by omega] at this
      simpa using this
    · intro j hj
      rw [hbt j (by omega)]
      have := g5 j hj
      rw [Nat.zero_add] at this
      exact this.symm
  rw [hlay, List.take_append_drop]
end Go.Proofs.Ytlmcefhpnfoahaa.P
end
