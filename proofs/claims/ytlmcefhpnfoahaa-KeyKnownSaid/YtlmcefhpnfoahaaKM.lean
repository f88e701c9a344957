/- Small laws of this session's own on maps that a call makes out of literals, keys of one byte. No condition. -/
import Derived.Test.YtlmcefhpnfoahaaK
import Derived.ChangeMaps5
import Derived.Carry
namespace Go.Proofs.Ytlmcefhpnfoahaa.P
open Go.RowKit Go.Proofs.YtlmcefhpnfoahaaW.PrintWords Go.Proofs.YtlmcefhpnfoahaaW.PrintLast Go.Proofs.YtlmcefhpnfoahaaW.PrintMore
open Go.ChangeMaps (setBlock)
section
variable {P : Program}
theorem isKey_int (q : IntKind) (k : Int) : MapKept.IsKey (.int q) (.int q k) := by simp [MapKept.IsKey]
theorem map_store_new (w : World) {t kt et : TypeId} {q : IntKind} (ht : P.underlying t = some (.map kt et)) (hk : P.underlying kt = some (.int q)) (es : Array MapEntry) (clock : Nat) (k : Int) (v : Value)
    (hn : Instr.findNow (.int q) (.int q k) es.toList 0 = some none) :
    (Instr.mapUpdate t (.map (some w.heap.size)) (.int q k) v).run P (w.alloc (.map es clock)) = .ok () (w.alloc (.map (es.push ⟨.int q k, v, clock⟩) (clock + 1))) := by
  have hb : (w.alloc (.map es clock)).heap[w.heap.size]? = some (.map es clock) := heap_alloc_new w _
  have e : setBlock (w.alloc (.map es clock)) w.heap.size (.map (es.push ⟨.int q k, v, clock⟩) (clock + 1)) = w.alloc (.map (es.push ⟨.int q k, v, clock⟩) (clock + 1)) := by
    simp [setBlock, World.alloc, -World.alloc_eq]
    apply Array.ext_getElem?
    intro i
    rw [Array.getElem?_setIfInBounds, Array.getElem?_push, Array.getElem?_push]
    by_cases hi : w.heap.size = i
    · subst hi; simp
    · rw [if_neg hi, if_neg (fun e => hi e.symm), if_neg (fun e => hi e.symm)]
  rw [← e]
  simp [Instr.mapUpdate, run_underlying ht, MapKept.run_getObj_map hb, MapKept.run_checkKey hk (isKey_int q k), MapKept.run_findKey hk hn, MapKept.run_setObj_map _ hb, Result.andThen, setBlock]
theorem map_look (w : World) {t kt et : TypeId} {q : IntKind} (ht : P.underlying t = some (.map kt et)) (hk : P.underlying kt = some (.int q)) {b : Nat} {es : Array MapEntry} {clock : Nat} (hb : w.heap[b]? = some (.map es clock)) (k : Int) {i : Nat} {v : Value}
    (hn : Instr.findNow (.int q) (.int q k) es.toList 0 = some (some (i, v))) :
    (Instr.lookup t (.map (some b)) (.int q k) true).run P w = .ok (.tuple #[v, .bool true]) w ∧ (Instr.lookup t (.map (some b)) (.int q k) false).run P w = .ok v w := by
  constructor <;> simp [Instr.lookup, run_underlying ht, MapKept.run_getObj_map hb, MapKept.run_checkKey hk (isKey_int q k), MapKept.run_findKey hk hn, Result.andThen]
theorem map_look_no (w : World) {t kt et : TypeId} {q : IntKind} (ht : P.underlying t = some (.map kt et)) (hk : P.underlying kt = some (.int q)) {b : Nat} {es : Array MapEntry} {clock : Nat} (hb : w.heap[b]? = some (.map es clock)) (k : Int) {z : Value}
    (hz : (zeroValue et).run P w = .ok z w) (hn : Instr.findNow (.int q) (.int q k) es.toList 0 = some none) :
    (Instr.lookup t (.map (some b)) (.int q k) true).run P w = .ok (.tuple #[z, .bool false]) w := by
  simp [Instr.lookup, run_underlying ht, MapKept.run_getObj_map hb, MapKept.run_checkKey hk (isKey_int q k), MapKept.run_findKey hk hn, hz, Result.andThen]
end
end Go.Proofs.Ytlmcefhpnfoahaa.P
