/- key.readers makes the map of the four readers; the reader of Null answers it. Condition: bytes are handed over. -/
import Derived.Test.YtlmcefhpnfoahaaG112
import Derived.Test.YtlmcefhpnfoahaaKM
namespace Go.Proofs.Ytlmcefhpnfoahaa.P
open Go.RowKit Go.Proofs.YtlmcefhpnfoahaaW.PrintWords Go.Proofs.YtlmcefhpnfoahaaW.PrintLast Go.Proofs.YtlmcefhpnfoahaaW.PrintMore
set_option linter.unusedVariables false
set_option linter.unusedSimpArgs false

/-- The readers, by first bytes. -/
def readersMap : Array MapEntry := #[⟨.int .u8 1, .func (.func 111) #[] #[], 0⟩, ⟨.int .u8 2, .func (.func 112) #[] #[], 1⟩, ⟨.int .u8 3, .func (.func 113) #[] #[], 2⟩, ⟨.int .u8 4, .func (.func 114) #[] #[], 3⟩]

set_option maxHeartbeats 800000 in
theorem readers_any (w : World) : Calls Try.prog 75 #[] w fun e w' => e = .returned (.map (some w.heap.size)) ∧ w' = w.alloc (.map readersMap 4) := by
  have hmm := @run_makeMap Try.prog
  have i1 := map_store_new (P := Try.prog) w Try.underlying86 Try.underlying5 #[] 0 1 (.func (.func 111) #[] #[]) rfl
  have i2 := map_store_new (P := Try.prog) w Try.underlying86 Try.underlying5 #[⟨.int .u8 1, .func (.func 111) #[] #[], 0⟩] 1 2 (.func (.func 112) #[] #[]) rfl
  have i3 := map_store_new (P := Try.prog) w Try.underlying86 Try.underlying5 #[⟨.int .u8 1, .func (.func 111) #[] #[], 0⟩, ⟨.int .u8 2, .func (.func 112) #[] #[], 1⟩] 2 3 (.func (.func 113) #[] #[]) rfl
  have i4 := map_store_new (P := Try.prog) w Try.underlying86 Try.underlying5 #[⟨.int .u8 1, .func (.func 111) #[] #[], 0⟩, ⟨.int .u8 2, .func (.func 112) #[] #[], 1⟩, ⟨.int .u8 3, .func (.func 113) #[] #[], 2⟩] 3 4 (.func (.func 114) #[] #[]) rfl
  go_enter Try.func75, Try.ntmps75
  go_wp2
  go_ret
  exact ⟨rfl, rfl⟩

set_option maxHeartbeats 800000 in
theorem readNull_read (A : Option Addr) (n c : Nat) (l : List Int) (w : World) (hl : l.length = n) (hc : n ≤ c) :
    Calls Try.prog 111 #[.slice A n c] w (ReadPost A n l w (z39, l, 0)) := by
  have HL := Aside0.mk hl
  clear hl
  go_enter Try.func111, Try.ntmps111
  go_wp2
  refine bodyPost_ret (v := .tuple #[.agg #[.int .u8 0, .int .i64 0, .string ⟨#[]⟩], .slice A n c, .int .i64 0]) (by simp [results, Try.results111, go_sem]) rfl ?_
  exact ⟨A, n, c, rfl, HL.out, hc, fun _ h => h, by repeat (first | exact Below.refl _ _ | apply below_alloc)⟩
end Go.Proofs.Ytlmcefhpnfoahaa.P
