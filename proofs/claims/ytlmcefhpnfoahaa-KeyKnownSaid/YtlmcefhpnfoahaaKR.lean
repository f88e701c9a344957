/- A law's arguments, opened: slices of bytes, of values, and slices of these, as lists that are read. Condition: the argument reads as data. -/
import Derived.Test.YtlmcefhpnfoahaaP0
import Derived.Deep.Slices
import Derived.Deep.Strs
import Derived.ProofKit
import Derived.ChangeOld
import Derived.Carry
namespace Go.Proofs.Ytlmcefhpnfoahaa.P
open Go.RowKit Go.ChangeShapes Go.WideShapes Go.Proofs.YtlmcefhpnfoahaaW.PrintWords
set_option linter.unusedVariables false
section
variable {H : Type} {enc : TypeId × Value → H} {w : World} {α : Type}
/-- Whatever reads as data of type e is told by the kind k, and is ok. -/
def Tells (enc : TypeId × Value → H) (w : World) (k : Kd α) (e : TypeId) (ok : α → Prop) : Prop :=
  ∀ fuel cs x, DataW.trod enc Try.prog w 0 (fun _ => true) true fuel e cs = some x → ∃ a, k.K w a cs ∧ ok a
theorem tells_int {e : TypeId} {q : IntKind} (he : Try.prog.underlying e = some (.int q)) : Tells enc w (Kd.int q) e (fun n => (Lit.int q n).wf = true) := by
  intro fuel cs x h
  obtain ⟨n, rfl, _, hw⟩ := DataW.trod_int he h
  exact ⟨n, rfl, hw⟩
theorem tells_string {e : TypeId} (he : Try.prog.underlying e = some .string) : Tells enc w Kd.string e (fun s => s.size ≤ maxLen) := by
  intro fuel cs x h
  obtain ⟨s, rfl, _, hw⟩ := DataW.trod_string he h
  exact ⟨s, rfl, hw⟩
theorem three {l : List Value} (h : l.length = 3) : ∃ a b c, l = [a, b, c] := by
  rcases l with _ | ⟨a, _ | ⟨b, _ | ⟨c, _ | ⟨d, r⟩⟩⟩⟩
  · simp at h
  · simp at h
  · simp at h
  · exact ⟨a, b, c, rfl⟩
  · simp at h
/-- A value that came in. -/
def okVal (x : S39) : Prop := (0 ≤ x.f0 ∧ x.f0 ≤ 255) ∧ (-9223372036854775808 ≤ x.f1 ∧ x.f1 ≤ 9223372036854775807) ∧ x.f2.size ≤ maxLen
theorem tells_val : Tells enc w k39 39 okVal := by
  intro fuel cs x h
  obtain ⟨y0, y1, y2, n, _, hl, h0, h1, h2⟩ := Go.Deep.trod_struct3 Try.underlying39 h
  have hc : Try.prog.cellsOf 39 = 3 := by kernel_rfl
  have c5 : Try.prog.cellsOf 5 = 1 := by kernel_rfl
  have c2 : Try.prog.cellsOf 2 = 1 := by kernel_rfl
  have c9 : Try.prog.cellsOf 9 = 1 := by kernel_rfl
  rw [hc] at hl
  obtain ⟨a, b, c, rfl⟩ := three hl
  simp only [c5, List.drop_zero, List.take] at h0
  simp only [c2, List.drop, List.take] at h1
  simp only [c9, List.drop, List.take] at h2
  obtain ⟨n0, e0, _, w0⟩ := DataW.trod_int Try.underlying5 h0
  obtain ⟨n1, e1, _, w1⟩ := DataW.trod_int Try.underlying2 h1
  obtain ⟨s, e2, _, w2⟩ := DataW.trod_string Try.underlying9 h2
  injection e0 with e0
  injection e1 with e1
  injection e2 with e2
  subst e0 e1 e2
  have u0 : 0 ≤ n0 ∧ n0 ≤ 255 := by
    have hmin : IntKind.u8.min = 0 := rfl
    have hmax : IntKind.u8.max = 255 := rfl
    simp only [Lit.wf, Bool.and_eq_true, decide_eq_true_eq] at w0
    omega
  have u1 : -9223372036854775808 ≤ n1 ∧ n1 ≤ 9223372036854775807 := by
    have hmin : IntKind.i64.min = -9223372036854775808 := rfl
    have hmax : IntKind.i64.max = 9223372036854775807 := rfl
    simp only [Lit.wf, Bool.and_eq_true, decide_eq_true_eq] at w1
    omega
  exact ⟨⟨n0, n1, s⟩, k39_mk w ⟨n0, n1, s⟩, u0, u1, w2⟩
/-- A slice whose elements are told, as a list that is read. -/
theorem open_rows {k : Kd α} {e t : TypeId} {ok : α → Prop} (d : α) (ht : Try.prog.underlying t = some (.slice e)) (hsz : Try.prog.cellsOf e = k.sz) (hk : Tells enc w k e ok) {fuel : Nat} {cs : List Value} {x : DataW H × List MemPlace}
    (h : DataW.trod enc Try.prog w 0 (fun _ => true) true fuel t cs = some x) :
    ∃ (A : Option Addr) (c : Nat) (xs : List α), cs = [.slice A xs.length c] ∧ xs.length ≤ c ∧ Kd.C k w A xs.length xs ∧ xs.length ≤ maxLen ∧ ∀ y ∈ xs, ok y := by
  rcases Go.Deep.open_slice ht h with ⟨rfl, _⟩ | ⟨a, len, cap, m, n, D, Pl, rfl, hb, hl, hm, hmm, _, hi⟩
  · exact ⟨none, 0, [], rfl, Nat.le_refl _, Kd.C_nil _ w, Nat.zero_le _, fun y hy => by cases hy⟩
  · simp only [if_true] at hmm
    have hall : ∀ i, i < len → ∃ y, ok y ∧ ∃ c, c.length = k.sz ∧ k.K w y c ∧ ∀ j u, c[j]? = some u → w.cell? (a.add (i * k.sz + j)) = some u := by
      intro i hil
      obtain ⟨cs', hc, ht'⟩ := hi i (by omega)
      obtain ⟨y, hy, hoky⟩ := hk _ _ _ ht'
      rw [hsz] at hc
      obtain ⟨_, hcl, hat⟩ := World.cells?_some hc
      refine ⟨y, hoky, cs', hcl, hy, fun j u hu => ?_⟩
      have hj : j < k.sz := by
        rw [← hcl]
        exact (List.getElem?_eq_some_iff.1 hu).1
      rw [← Go.Deep.add_add, hat j hj, hu]
    haveI : Inhabited α := ⟨d⟩
    obtain ⟨f, hf⟩ := Go.Deep.choose_lt hall
    have hlen : ((List.range len).map f).length = len := by simp
    refine ⟨some a, cap, (List.range len).map f, by rw [hlen], by rw [hlen]; exact hl, ?_, by rw [hlen]; omega, ?_⟩
    · refine ⟨rfl, by rw [hlen]; unfold maxLen at hm; omega, fun _ => ⟨a, rfl, fun j p hj => ?_⟩⟩
      rw [List.getElem?_map] at hj
      obtain ⟨q, hq, rfl⟩ := Option.map_eq_some_iff.1 hj
      have hjl : j < len := by
        have := (List.getElem?_eq_some_iff.1 hq).1
        simpa using this
      rw [List.getElem?_range hjl] at hq
      injection hq with hq
      subst hq
      obtain ⟨_, c, h1, h2, h3⟩ := hf j hjl
      exact ⟨c, h1, h2, h3⟩
    · intro y hy
      obtain ⟨i, hi', rfl⟩ := List.mem_map.1 hy
      exact (hf i (by simpa using hi')).1
theorem tells_slice {k : Kd α} {e t : TypeId} {ok : α → Prop} (d : α) (ht : Try.prog.underlying t = some (.slice e)) (hsz : Try.prog.cellsOf e = k.sz) (hk : Tells enc w k e ok) : Tells enc w (Kd.slice e k) t (fun xs => ∀ y ∈ xs, ok y) := by
  intro fuel cs x h
  obtain ⟨A, c, xs, rfl, hc, hC, _, hok⟩ := open_rows d ht hsz hk h
  exact ⟨xs, ⟨A, c, rfl, hc, hC⟩, hok⟩
/-- The same of an argument. -/
theorem open_arg {k : Kd α} {e t : TypeId} {ok : α → Prop} (d : α) (ht : Try.prog.underlying t = some (.slice e)) (hsz : Try.prog.cellsOf e = k.sz) (hk : Tells enc w k e ok) {a : Option Addr} {len cap : Nat} {D : DataW H} {ps : List MemPlace}
    (h : DataW.Trod enc Try.prog w 0 (fun _ => true) true t (.slice a len cap) D ps) :
    ∃ xs : List α, len = xs.length ∧ xs.length ≤ cap ∧ Kd.C k w a xs.length xs ∧ xs.length ≤ maxLen ∧ ∀ y ∈ xs, ok y := by
  obtain ⟨fuel, hf⟩ := h
  obtain ⟨A, c, xs, he, hc, hC, hm, hok⟩ := open_rows d ht hsz hk hf
  simp only [Value.cells, List.cons.injEq, and_true] at he
  injection he with h1 h2 h3
  subst h1 h2 h3
  exact ⟨xs, rfl, hc, hC, hm, hok⟩
theorem byte_of_wf {n : Int} (h : (Lit.int .u8 n).wf = true) : 0 ≤ n ∧ n ≤ 255 := by
  have hmin : IntKind.u8.min = 0 := rfl
  have hmax : IntKind.u8.max = 255 := rfl
  simp only [Lit.wf, Bool.and_eq_true, decide_eq_true_eq] at h
  omega
end
end Go.Proofs.Ytlmcefhpnfoahaa.P
