/- Small laws of this session's own, used by the walks that are written by hand: rows that a call makes, over the printed words. No condition. -/
import Derived.Test.YtlmcefhpnfoahaaP0
namespace Go.Proofs.Ytlmcefhpnfoahaa.P
open Go.RowKit Go.Proofs.YtlmcefhpnfoahaaW.PrintWords Go.Proofs.YtlmcefhpnfoahaaW.PrintLast Go.Proofs.YtlmcefhpnfoahaaW.PrintMore
set_option linter.unusedVariables false
set_option linter.unusedSimpArgs false

/-- What a block made just ahead of a call holds behind it. -/
theorem box_at {W W' : World} {cs : Array Value} {t : TypeId} (hb : Below (W.alloc (.cells cs t)).heap.size (W.alloc (.cells cs t)) W') (i : Nat) {v : Value} (h : cs[i]? = some v) : W'.cell? ⟨W.heap.size, i, none⟩ = some v := by
  have hs : (W.alloc (.cells cs t)).heap.size = W.heap.size + 1 := by simp
  have h1 : (W.alloc (.cells cs t)).cell? ⟨W.heap.size, i, none⟩ = some v := by
    rw [cell_of_row (W.alloc (.cells cs t)) W.heap.size i cs t (0, 0) (heap_alloc_new W _)]
    exact h
  rw [hb.cell (p := ⟨W.heap.size, i, none⟩) (by rw [hs]; exact Nat.lt_succ_self _)]
  exact h1
theorem below_size_le {B : Nat} {w W : World} (h : Below B w W) : w.heap.size ≤ W.heap.size := h.size

/-- A row of the call's own (base B: what is at hand when the call began), and what was there. -/
structure Own {α : Type} (d : Kd α) (e B : Nat) (w0 W : World) (v : Value) (xs : List α) : Prop where
  r : Kd.R d e W B (fun _ => True) v xs
  b : Below B w0 W
  s : B ≤ W.heap.size
section
variable {α : Type} {d : Kd α} {e B : Nat} {w0 W W' : World} {v : Value} {xs : List α}
theorem Own.nil (d : Kd α) (e : Nat) (hb : Below B w0 W) (hs : B ≤ W.heap.size) : Own d e B w0 W (.slice none 0 0) [] := ⟨Kd.R_nil _ _ _ _ _, hb, hs⟩
theorem Own.start (d : Kd α) (e : Nat) (w : World) : Own d e w.heap.size w w (.slice none 0 0) [] := ⟨Kd.R_nil _ _ _ _ _, Below.refl _ _, Nat.le_refl _⟩
theorem Own.step (h : Own d e B w0 W v xs) (hb : Below W.heap.size W W') : Own d e B w0 W' v xs := ⟨Kd.R_below h.r hb, below_then h.b h.s hb, Nat.le_trans h.s hb.size⟩
theorem Own.alloc (h : Own d e B w0 W v xs) (o : Obj) : Own d e B w0 (W.alloc o) v xs := h.step (below_alloc (Below.refl _ _) o)
theorem Own.drew (h : Own d e B w0 W v xs) : Own d e B w0 W.drew v xs := h.step (below_drew (Below.refl _ _))
theorem Own.drewN (h : Own d e B w0 W v xs) (n : Nat) : Own d e B w0 (W.drewN n) v xs := h.step (pw_below_drewN (Below.refl _ _) n)
theorem Own.sl (h : Own d e B w0 W v xs) : ∃ A c, v = .slice A xs.length c ∧ xs.length ≤ c ∧ d.C W A xs.length xs := Kd.R_reads h.r
theorem Own.len {A : Option Addr} {n c : Nat} (h : Own d e B w0 W (.slice A n c) xs) : n = xs.length := (Kd.R_reads' h.r).1
theorem Own.lt (h : Own d e B w0 W v xs) {k : Nat} (hk : v.ownBlock = some k) : k < W.heap.size := Kd.R_lt h.r k hk
theorem Own.of_cast (h : Own d e B w0 W v xs) {ys : List α} (e1 : xs = ys) : Own d e B w0 W v ys := by subst e1; exact h
end
/-- A block that an own row v is apart from. -/
structure Box (W : World) (g : Nat) (cs : Array Value) (t : TypeId) (fr : Nat × Nat) (v : Value) : Prop where
  h : W.heap[g]? = some (.cells cs t fr)
  n : v.ownBlock ≠ some g
section
variable {W W' w1 : World} {g : Nat} {cs : Array Value} {t : TypeId} {fr : Nat × Nat} {v v1 : Value}
theorem Box.lt (h : Box W g cs t fr v) : g < W.heap.size := (Array.getElem?_eq_some_iff.1 h.h).1
theorem Box.made {α : Type} {d : Kd α} {e B : Nat} {w0 : World} {xs : List α} (h : Own d e B w0 W v xs) (cs : Array Value) (t : TypeId) : Box (W.alloc (.cells cs t)) W.heap.size cs t (0, 0) v :=
  ⟨heap_alloc_new W _, fun hk => Nat.lt_irrefl _ (h.lt hk)⟩
theorem Box.step (h : Box W g cs t fr v) (hb : Below W.heap.size W W') : Box W' g cs t fr v := ⟨(hb.block g h.lt).trans h.h, h.n⟩
theorem Box.alloc (h : Box W g cs t fr v) (o : Obj) : Box (W.alloc o) g cs t fr v := h.step (below_alloc (Below.refl _ _) o)
theorem Box.drewN (h : Box W g cs t fr v) (n : Nat) : Box (W.drewN n) g cs t fr v := h.step (pw_below_drewN (Below.refl _ _) n)
theorem Box.app (h : Box W g cs t fr v) (hg : W.grownBy w1 v.ownBlock) (hat : v1.ownBlock = v.ownBlock ∨ ∃ b, v1.ownBlock = some b ∧ W.heap.size ≤ b) : Box w1 g cs t fr v1 := by
  refine ⟨(hg.block g h.lt (fun e => h.n e.symm)).trans h.h, ?_⟩
  rcases hat with e | ⟨b, e, hb⟩
  · rw [e]; exact h.n
  · rw [e]
    have := h.lt
    intro e2
    injection e2 with e2
    omega
theorem Box.cell (h : Box W g cs t fr v) (i : Nat) {u : Value} (hu : cs[i]? = some u) : W.cell? ⟨g, i, none⟩ = some u := (cell_of_row W g i cs t fr h.h).trans hu
end
section
variable {P : Program} {ops : Array Oper} {rest : List Oper} {o : Oper} {a : Act} {Q : Exit → Act → World → Prop}
/-- append(v, y0, y1, ..): whole bytes; the goal's world is that of the variadic's box. -/
theorem Own.app_bytes {B : Nat} {w0 W : World} {v : Value} {xs : List Int} (hO : Own (Kd.int .u8) 5 B w0 W v xs) (hgd : o.guard = none) (s x : Operand) (t : TypeId) (ys : List Int) (cs : List Value) (hcs : cs = nums .u8 ys)
    (ho : o.op = .call { callee := .builtin .append, args := #[s, x], argTypes := #[t, t] })
    (ht : P.underlying t = some (.slice 5)) (hinfo : (P.info? 5).map (fun i => (i.zero, i.size, i.bytes)) = some (some (.int .u8 0), 1, 1))
    (hs : a.eval s = v) (hx : a.eval x = .slice (some ⟨W.heap.size, 0, none⟩) cs.length cs.length)
    (hl : xs.length + ys.length ≤ 140737488355328)
    (h : ∀ v1 w1, Own (Kd.int .u8) 5 B w0 w1 v1 (xs ++ ys) → (W.alloc (.cells cs.toArray 5)).grownBy w1 v.ownBlock → (v1.ownBlock = v.ownBlock ∨ ∃ b, v1.ownBlock = some b ∧ (W.alloc (.cells cs.toArray 5)).heap.size ≤ b) → wpList P ops Q rest (a.put o.dst v1) w1) :
    wpList P ops Q (o :: rest) a (W.alloc (.cells cs.toArray 5)) := by
  subst hcs
  have hsz : (W.alloc (.cells (nums .u8 ys).toArray 5)).heap.size = W.heap.size + 1 := by simp
  have hlen : (nums .u8 ys).length = ys.length := nums_length _ _
  rw [hlen] at hx
  have hC : Kd.C (Kd.int .u8) (W.alloc (.cells (nums .u8 ys).toArray 5)) (some ⟨W.heap.size, 0, none⟩) ys.length ys := by
    refine Kd.C_of_reads (d := (0 : Int)) (h1 := fun _ => rfl) ⟨rfl, by omega, fun _ => ⟨_, rfl, fun j hj => ?_⟩⟩
    rw [add_plain, cell_of_row _ W.heap.size j _ 5 (0, 0) (heap_alloc_new W _)]
    simp [nums, List.getD_eq_getElem?_getD, List.getElem?_eq_getElem hj]
  refine Kd.R_append_rows (Kd.int .u8) (w0 := w0) B hgd s x t 5 (.int .u8 0) 1 ho ht hinfo rfl (by decide) (by omega) v xs ys (some ⟨W.heap.size, 0, none⟩) ys.length ys.length (fun _ => True) (fun _ => False) hs hx
    (hO.alloc _).r hC (fun _ _ h => h) (fun _ h => h.elim) (fun _ _ => trivial) (hO.alloc _).b (hO.alloc _).s (by omega) ?_
  intro v1 w1 ho1 hb hg hat
  refine h v1 w1 ⟨ho1, hb, ?_⟩ hg hat
  have := hO.s; have := hg.size; rw [hsz] at this; omega
/-- append(v, ys...): bytes that are read. -/
theorem Own.app_read {B : Nat} {w0 W : World} {v : Value} {xs : List Int} (hO : Own (Kd.int .u8) 5 B w0 W v xs) (hgd : o.guard = none) (s x : Operand) (t : TypeId) (ys : List Int) (A : Option Addr) (n c : Nat) (hC : Kd.C (Kd.int .u8) W A n ys)
    (ho : o.op = .call { callee := .builtin .append, args := #[s, x], argTypes := #[t, t] })
    (ht : P.underlying t = some (.slice 5)) (hinfo : (P.info? 5).map (fun i => (i.zero, i.size, i.bytes)) = some (some (.int .u8 0), 1, 1))
    (hs : a.eval s = v) (hx : a.eval x = .slice A n c)
    (hl : xs.length + n ≤ 140737488355328)
    (h : ∀ v1 w1, Own (Kd.int .u8) 5 B w0 w1 v1 (xs ++ ys) → W.grownBy w1 v.ownBlock → (v1.ownBlock = v.ownBlock ∨ ∃ b, v1.ownBlock = some b ∧ W.heap.size ≤ b) → wpList P ops Q rest (a.put o.dst v1) w1) :
    wpList P ops Q (o :: rest) a W := by
  refine Kd.R_append_rows (Kd.int .u8) (w0 := w0) B hgd s x t 5 (.int .u8 0) 1 ho ht hinfo rfl (by decide) (by omega) v xs ys A n c (fun _ => True) (fun _ => False) hs hx
    hO.r hC (fun _ _ h => h) (fun _ h => h.elim) (fun _ _ => trivial) hO.b hO.s (by omega) ?_
  intro v1 w1 ho1 hb hg hat
  exact h v1 w1 ⟨ho1, hb, by have := hO.s; have := hg.size; omega⟩ hg hat
end
section
variable {ops : Array Oper} {rest : List Oper} {o : Oper} {a : Act} {Q : Exit → Act → World → Prop} {B : Nat} {w0 W : World} {v : Value} {xs : List Int}
/-- append(v, y), append(v, y, z) of bytes, in the program at hand. -/
theorem Own.byte (hO : Own (Kd.int .u8) 5 B w0 W v xs) (hgd : o.guard = none) (s x : Operand) (y : Int)
    (ho : o.op = .call { callee := .builtin .append, args := #[s, x], argTypes := #[22, 22] }) (hs : a.eval s = v) (hx : a.eval x = .slice (some ⟨W.heap.size, 0, none⟩) 1 1) (hl : xs.length + 1 ≤ 140737488355328)
    (h : ∀ v1 w1, Own (Kd.int .u8) 5 B w0 w1 v1 (xs ++ [y]) → (W.alloc (.cells #[.int .u8 y] 5)).grownBy w1 v.ownBlock → (v1.ownBlock = v.ownBlock ∨ ∃ b, v1.ownBlock = some b ∧ (W.alloc (.cells #[.int .u8 y] 5)).heap.size ≤ b) → wpList Try.prog ops Q rest (a.put o.dst v1) w1) :
    wpList Try.prog ops Q (o :: rest) a (W.alloc (.cells #[.int .u8 y] 5)) :=
  hO.app_bytes hgd s x 22 [y] [.int .u8 y] rfl ho Try.underlying22 info5 hs hx hl h
theorem Own.byte2 (hO : Own (Kd.int .u8) 5 B w0 W v xs) (hgd : o.guard = none) (s x : Operand) (y z : Int)
    (ho : o.op = .call { callee := .builtin .append, args := #[s, x], argTypes := #[22, 22] }) (hs : a.eval s = v) (hx : a.eval x = .slice (some ⟨W.heap.size, 0, none⟩) 2 2) (hl : xs.length + 2 ≤ 140737488355328)
    (h : ∀ v1 w1, Own (Kd.int .u8) 5 B w0 w1 v1 (xs ++ [y, z]) → (W.alloc (.cells #[.int .u8 y, .int .u8 z] 5)).grownBy w1 v.ownBlock → (v1.ownBlock = v.ownBlock ∨ ∃ b, v1.ownBlock = some b ∧ (W.alloc (.cells #[.int .u8 y, .int .u8 z] 5)).heap.size ≤ b) → wpList Try.prog ops Q rest (a.put o.dst v1) w1) :
    wpList Try.prog ops Q (o :: rest) a (W.alloc (.cells #[.int .u8 y, .int .u8 z] 5)) :=
  hO.app_bytes hgd s x 22 [y, z] [.int .u8 y, .int .u8 z] rfl ho Try.underlying22 info5 hs hx hl h
/-- append(v, ys...) of bytes that are read. -/
theorem Own.bytes (hO : Own (Kd.int .u8) 5 B w0 W v xs) (hgd : o.guard = none) (s x : Operand) {ys : List Int} {A : Option Addr} {n c : Nat} (hC : Kd.C (Kd.int .u8) W A n ys)
    (ho : o.op = .call { callee := .builtin .append, args := #[s, x], argTypes := #[22, 22] }) (hs : a.eval s = v) (hx : a.eval x = .slice A n c) (hl : xs.length + n ≤ 140737488355328)
    (h : ∀ v1 w1, Own (Kd.int .u8) 5 B w0 w1 v1 (xs ++ ys) → W.grownBy w1 v.ownBlock → (v1.ownBlock = v.ownBlock ∨ ∃ b, v1.ownBlock = some b ∧ W.heap.size ≤ b) → wpList Try.prog ops Q rest (a.put o.dst v1) w1) :
    wpList Try.prog ops Q (o :: rest) a W :=
  hO.app_read hgd s x 22 ys A n c hC ho Try.underlying22 info5 hs hx hl h
end
/-- append(v, x), x one api.Value. -/
theorem Own.val {ops : Array Oper} {rest : List Oper} {o : Oper} {a : Act} {Q : Exit → Act → World → Prop} {B : Nat} {w0 W : World} {v : Value} {xs : List S39} (hO : Own k39 39 B w0 W v xs) (hgd : o.guard = none) (s x : Operand) (y : S39) {y0 y1 y2 : Value}
    (ho : o.op = .call { callee := .builtin .append, args := #[s, x], argTypes := #[23, 23] }) (e0 : y0 = .int .u8 y.f0) (e1 : y1 = .int .i64 y.f1) (e2 : y2 = .string y.f2) (hs : a.eval s = v) (hx : a.eval x = .slice (some ⟨W.heap.size, 0, none⟩) 1 1) (hl : xs.length + 1 ≤ 4398046511104)
    (h : ∀ v1 w1, Own k39 39 B w0 w1 v1 (xs ++ [y]) → W.grownBy w1 v.ownBlock → (v1.ownBlock = v.ownBlock ∨ ∃ b, v1.ownBlock = some b ∧ W.heap.size ≤ b) → wpList Try.prog ops Q rest (a.put o.dst v1) w1) :
    wpList Try.prog ops Q (o :: rest) a (W.alloc (.cells #[y0, y1, y2] 39)) := by
  subst e0 e1 e2
  refine Kd.R_append k39 (w0 := w0) B hgd s x 23 39 (.agg #[(.int .u8 0), (.int .i64 0), (.string ⟨#[]⟩)]) 32 ho Try.underlying23 info39 rfl (by decide) (by omega) v xs y [.int .u8 y.f0, .int .i64 y.f1, .string y.f2] (fun _ => True) (fun _ => False) hs hx (k39_mkM _ _ _ y) (fun _ hk => hk.elim) (fun _ _ => trivial) hO.r hO.b hO.s (by omega) ?_
  intro v1 w1 ho1 hb hg hat
  exact h v1 w1 ⟨ho1, hb, by have := hO.s; have := hg.size; omega⟩ hg hat
theorem Own.empty {α : Type} (d : Kd α) (e : Nat) {B : Nat} {w0 W : World} (hb : Below B w0 W) (hs : B ≤ W.heap.size) : Own d e B w0 (W.alloc (.cells #[] e)) (.slice (some ⟨W.heap.size, 0, none⟩) 0 0) [] := by
  have h := World.ownsRow_lit (base := B) (e := e) (size := d.sz) W #[] 0 hs (by simp) (by simp)
  refine ⟨⟨fun _ _ => trivial, [], by simpa using h, Reps.none _ _⟩, hb.alloc hs _, by simp; omega⟩
theorem Own.sl' {α : Type} {d : Kd α} {e B : Nat} {w0 W : World} {v : Value} {xs : List α} (h : Own d e B w0 W v xs) : ∃ A n c, v = .slice A n c ∧ Aside0 (n = xs.length) ∧ n ≤ c ∧ Aside0 (d.C W A n xs) := by
  obtain ⟨A, c, h1, h2, h3⟩ := h.sl
  exact ⟨A, xs.length, c, h1, ⟨rfl⟩, h2, ⟨h3⟩⟩
/-- append(v, ys...) of values that are read. -/
theorem Own.vals {ops : Array Oper} {rest : List Oper} {o : Oper} {a : Act} {Q : Exit → Act → World → Prop} {B : Nat} {w0 W : World} {v : Value} {xs : List S39} (hO : Own k39 39 B w0 W v xs) (hgd : o.guard = none) (s x : Operand) {ys : List S39} {A : Option Addr} {n c : Nat} (hC : Kd.C k39 W A n ys)
    (ho : o.op = .call { callee := .builtin .append, args := #[s, x], argTypes := #[23, 23] }) (hs : a.eval s = v) (hx : a.eval x = .slice A n c) (hl : xs.length + n ≤ 4398046511104)
    (h : ∀ v1 w1, Own k39 39 B w0 w1 v1 (xs ++ ys) → W.grownBy w1 v.ownBlock → (v1.ownBlock = v.ownBlock ∨ ∃ b, v1.ownBlock = some b ∧ W.heap.size ≤ b) → wpList Try.prog ops Q rest (a.put o.dst v1) w1) :
    wpList Try.prog ops Q (o :: rest) a W := by
  refine Kd.R_append_rows k39 (Rr := k39.K W) (w0 := w0) B hgd s x 23 39 (.agg #[(.int .u8 0), (.int .i64 0), (.string ⟨#[]⟩)]) 32 ho Try.underlying23 info39 rfl (by decide) (by omega) v xs ys A n c (fun _ => True) (fun _ => False) hs hx
    hO.r hC (fun y cs hK => by have := k39_open hK; subst this; exact k39_mkM _ _ _ y) (fun _ h => h.elim) (fun _ _ => trivial) hO.b hO.s (by omega) ?_
  intro v1 w1 ho1 hb hg hat
  exact h v1 w1 ⟨ho1, hb, by have := hO.s; have := hg.size; omega⟩ hg hat
/-- What a call has made, as a row of the caller's own. -/
theorem Own.made {α : Type} {d : Kd α} {e B : Nat} {w0 W W' : World} {v : Value} {xs : List α} (hb : Below B w0 W) (hs : B ≤ W.heap.size) (hr : Kd.R d e W' W.heap.size (fun _ => True) v xs) (hb' : Below W.heap.size W W') : Own d e B w0 W' v xs :=
  ⟨Kd.R_lower hr hs, below_then hb hs hb', Nat.le_trans hs hb'.size⟩
/-- An append to a block that was just made changes nothing that was there. -/
theorem below_fresh {W w1 : World} {o : Obj} {row : Option Nat} (hg : (W.alloc o).grownBy w1 row) (hr : ∀ k, row = some k → W.heap.size ≤ k) : Below W.heap.size W w1 :=
  ((Below.refl _ _).alloc (Nat.le_refl _) _).grown hg (by simp) hr
/-- A block of any kind that an own row v is apart from. -/
structure Blk (W : World) (g : Nat) (o : Obj) (v : Value) : Prop where
  h : W.heap[g]? = some o
  n : v.ownBlock ≠ some g
section
variable {W W' w1 : World} {g : Nat} {o : Obj} {v v1 : Value}
theorem Blk.lt (h : Blk W g o v) : g < W.heap.size := (Array.getElem?_eq_some_iff.1 h.h).1
theorem Blk.step (h : Blk W g o v) (hb : Below W.heap.size W W') : Blk W' g o v := ⟨(hb.block g h.lt).trans h.h, h.n⟩
theorem Blk.alloc (h : Blk W g o v) (o' : Obj) : Blk (W.alloc o') g o v := h.step (below_alloc (Below.refl _ _) o')
theorem Blk.drewN (h : Blk W g o v) (n : Nat) : Blk (W.drewN n) g o v := h.step (pw_below_drewN (Below.refl _ _) n)
theorem Blk.app (h : Blk W g o v) (hg : W.grownBy w1 v.ownBlock) (hat : v1.ownBlock = v.ownBlock ∨ ∃ b, v1.ownBlock = some b ∧ W.heap.size ≤ b) : Blk w1 g o v1 := by
  refine ⟨(hg.block g h.lt (fun e => h.n e.symm)).trans h.h, ?_⟩
  rcases hat with e | ⟨b, e, hb⟩
  · rw [e]; exact h.n
  · rw [e]
    have := h.lt
    intro e2
    injection e2 with e2
    omega
end
/-- []byte(s): the run, the block that it makes. -/
theorem conv_bytes (s : ByteArray) (W : World) : (convert 9 22 (.string s)).run Try.prog W = .ok (.slice (some ⟨W.heap.size, 0, none⟩) s.size (grownCap W s.size 0 5)) (Lib.bytesWorld W 5 s) :=
  print_bytes (P := Try.prog) 9 22 5 Try.underlying9 Try.underlying22 Try.underlying5 s W
theorem Own.bytesWorld {α : Type} {d : Kd α} {e B : Nat} {w0 W : World} {v : Value} {xs : List α} (h : Own d e B w0 W v xs) (s : ByteArray) : Own d e B w0 (Lib.bytesWorld W 5 s) v xs := h.step (bytes_below (Below.refl _ _) (Nat.le_refl _) 5 s)
theorem Box.bytesWorld {W : World} {g : Nat} {cs : Array Value} {t : TypeId} {fr : Nat × Nat} {v : Value} (h : Box W g cs t fr v) (s : ByteArray) : Box (Lib.bytesWorld W 5 s) g cs t fr v := h.step (bytes_below (Below.refl _ _) (Nat.le_refl _) 5 s)
theorem Box.conv {α : Type} {d : Kd α} {e B : Nat} {w0 W : World} {v : Value} {xs : List α} (h : Own d e B w0 W v xs) (s : ByteArray) : Box (Lib.bytesWorld W 5 s) W.heap.size (Lib.bytesCells W 5 s) 5 ((Lib.bytesCells W 5 s).size, (Lib.bytesCells W 5 s).size + 1) v :=
  ⟨Lib.bytesWorld_at_new W 5 s, fun hk => Nat.lt_irrefl _ (h.lt hk)⟩
theorem bytesCells_at (W : World) (s : ByteArray) (j : Nat) (hj : j < s.size) : (Lib.bytesCells W 5 s)[j]? = some (.int .u8 (rd (bytesOf s) j)) := by
  have h := Lib.bytesWorld_cell W 5 s j hj
  rw [cell_of_row _ _ j _ _ _ (Lib.bytesWorld_at_new W 5 s)] at h
  rw [h]
  have h' : j < s.data.toList.length := by rw [data_length]; exact hj
  simp [rd, bytesOf, List.getD_eq_getElem?_getD, List.getElem?_eq_getElem h']
theorem cell_new {w : World} {a : Addr} {v : Value} (h : w.cell? a = some v) (o : Obj) : (w.alloc o).cell? a = some v := pw_cell_below (below_alloc (Below.refl _ _) o) h
/-- 'b[j:]' of bytes that are read: what it is stands behind letters. -/
theorem cut_from (A : Option Addr) (n c : Nat) (l : List Int) (j : Int) (hn : l.length = n) (h0 : 0 ≤ j) (hm : j ≤ n) (hc : n ≤ c) :
    ∃ (A' : Option Addr) (n' c' : Nat), (∀ W : World, (Instr.slice 22 (.slice A n c) (some (.int .i64 j)) none none).run Try.prog W = .ok (.slice A' n' c') W) ∧ n' = n - j.toNat ∧ n' ≤ c' ∧
      (∀ W : World, Kd.C (Kd.int .u8) W A n l → Kd.C (Kd.int .u8) W A' n' (l.drop j.toNat)) := by
  obtain ⟨i0, hi, hzz⟩ := Option.map_eq_some_iff.1 info5
  simp only [Prod.mk.injEq] at hzz
  obtain ⟨A', h1, h2⟩ := print_cut (P := Try.prog) 22 5 .i64 Try.underlying22 hi hzz.2.1 A n c j.toNat (by omega)
  rw [Int.toNat_of_nonneg h0] at h1
  exact ⟨A', n - j.toNat, c - j.toNat, h1, rfl, by omega, fun W hC => Kd.C_of_reads (d := (0 : Int)) (h1 := fun _ => rfl) (h2 W .u8 l hc (Kd.reads_of_C (enc := Value.int .u8) (d := (0 : Int)) (h1 := fun _ => rfl) hC))⟩
/-- 'b[:j]' likewise. -/
theorem cut_to (A : Option Addr) (n c : Nat) (l : List Int) (j : Int) (hn : l.length = n) (h0 : 0 ≤ j) (hm : j ≤ n) (hc : n ≤ c) :
    ∃ (n' : Nat), (∀ W : World, (Instr.slice 22 (.slice A n c) none (some (.int .i64 j)) none).run Try.prog W = .ok (.slice A n' c) W) ∧ n' = j.toNat ∧ n' ≤ c ∧
      (∀ W : World, Kd.C (Kd.int .u8) W A n l → Kd.C (Kd.int .u8) W A n' (l.take j.toNat)) := by
  refine ⟨j.toNat, fun W => ?_, rfl, by omega, fun W hC => ?_⟩
  · have hel : Try.prog.elem 22 = 5 := by simp [Program.elem, Try.underlying22]
    have hu : Try.prog.underlying 22 = some (.slice (Try.prog.elem 22)) := by rw [hel]; exact Try.underlying22
    rw [run_slice_h W 22 A n c hu .i64 j h0 (by omega), hel]
    obtain ⟨i0, hi, hzz⟩ := Option.map_eq_some_iff.1 info5
    simp only [Prod.mk.injEq] at hzz
    simp [sizeOf, typeInfo, hi, hzz.2.1, sliced, Result.andThen]
    intro _
    cases A <;> simp [Addr.add_zero']
  · subst hn
    have := Kd.C_take hC (m := j.toNat) (by omega)
    rwa [show (l.take j.toNat).length = j.toNat by rw [List.length_take]; omega] at this
theorem C_rd {W : World} {A : Option Addr} {n : Nat} {l : List Int} (h : Kd.C (Kd.int .u8) W A n l) (i : Nat) (hi : i < n) : ∃ ad, A = some ad ∧ W.cell? (ad.add i) = some (.int .u8 (rd l i)) := by
  have := Kd.at_int h (i : Int) (by omega) (by omega)
  rwa [Int.toNat_natCast] at this
theorem Box.put3 {W : World} {g : Nat} {t : TypeId} {v a b c x y z : Value} (h : Box W g #[a, b, c] t (0, 0) v) :
    (((W.setCell ⟨g, 0, none⟩ x).setCell ⟨g, 1, none⟩ y).setCell ⟨g, 2, none⟩ z).heap[g]? = some (.cells #[x, y, z] t (0, 0)) :=
  blk_put (cs := #[x, y, c]) (blk_put (cs := #[x, b, c]) (blk_put (cs := #[a, b, c]) h.h 0 _ rfl) 1 _ rfl) 2 _ rfl
theorem below3 {B : Nat} {w0 W : World} (h : Below B w0 W) {g : Nat} (hg : B ≤ g) (x y z : Value) : Below B w0 (((W.setCell ⟨g, 0, none⟩ x).setCell ⟨g, 1, none⟩ y).setCell ⟨g, 2, none⟩ z) :=
  ((h.setCell hg x).setCell hg y).setCell hg z
/-- string(v), v a row of bytes of the call's own. -/
theorem Own.str {B : Nat} {w0 W : World} {A : Option Addr} {n c : Nat} {xs : List Int} (h : Own (Kd.int .u8) 5 B w0 W (.slice A n c) xs) : (convert 22 9 (.slice A n c)).run Try.prog W = .ok (.string (strOfNums xs)) W := by
  obtain ⟨h1, h2, h3⟩ := Kd.R_reads' h.r
  subst h1
  exact Kd.C_string Try.underlying22 Try.underlying5 Try.underlying9 h3
/-- A slice's length, for a loop's measure. -/
def lenOf : Value → Nat
  | .slice _ n _ => n
  | _ => 0
theorem Box.frz {W : World} {g : Nat} {cs : Array Value} {t : TypeId} {v : Value} (h : Box W g cs t (0, 0) v) (i : Nat) : W.frozen? ⟨g, i, none⟩ = false := blk_frozen h.h i
end Go.Proofs.Ytlmcefhpnfoahaa.P
