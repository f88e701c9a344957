/- Part 1 of what the laws of this chapter stand on: texts of this session, gathered. Condition: none beside those that each theorem states. -/
import Derived.Lib.SlBytesConst
import Derived.JoinedOf
import Derived.KernelRfl
import Derived.Test.YtlmcefhpnfoahaaRows
import Derived.Test.YtlmcefhpnfoahaaBROP0
section
namespace Go.Proofs.Ytlmcefhpnfoahaa.P
open Go.RowKit Go.Proofs.YtlmcefhpnfoahaaW.PrintWords Go.Proofs.YtlmcefhpnfoahaaW.PrintLast Go.Proofs.YtlmcefhpnfoahaaW.PrintMore
set_option linter.unusedVariables false
set_option linter.unusedSimpArgs false

/-- One value more behind what is told already: a bit at Null, else the value's bytes. -/
def putStep (L : List Int) (i : Nat) (x : S39) : List Int := if x.f0 = 0 then L.set (i / 8) (bits .or .u8 (rd L ((i / 8 : Nat) : Int)) (2 ^ (i % 8))) else L ++ enc1 x
/-- The first k values told. -/
def putN (l : List S39) : Nat → List Int
  | 0 => List.replicate ((l.length + 7) / 8) 0
  | k + 1 => putStep (putN l k) k (rd_T39 l k)
/-- Do the first k values fit their types? -/
def fitN (t : List Int) (l : List S39) (k : Nat) : Bool := (List.range k).all fun i => rowMay (rd t i) (rd_T39 l i)
def row_Put.f (t : List Int) (l : List S39) : Option (List Int × Int) :=
  if t.length ≤ 500 ∧ l.length ≤ 64 ∧ l.all okNum = true ∧ (l.all fun x => decide (x.f2.size ≤ 10000)) = true then
    some (if knownT t = true ∧ l.length = t.length ∧ fitN t l l.length = true then (putN l l.length, 0) else ([], 1))
  else none
theorem field106 (f g : Value) (W : World) : (Instr.field 106 (.agg #[f, g]) 0).run Try.prog W = .ok f W := by
  simp [Instr.field, go_sem, asAgg]
theorem putN_ge (l : List S39) : ∀ k, (l.length + 7) / 8 ≤ (putN l k).length := by
  intro k
  induction k with
  | zero => simp [putN]
  | succ k ih => unfold putN putStep; split <;> simp <;> omega
theorem enc1_len (x : S39) (hs : x.f2.size ≤ 10000) : (enc1 x).length ≤ 10010 := by
  unfold enc1
  split
  · simp
  · split
    · have := vput_length 9 (zig x.f1); omega
    · have := vput_length 9 (x.f2.size : Int); rw [List.length_append, bytesOf_length]; omega
theorem putN_le (l : List S39) (hs : (l.all fun x => decide (x.f2.size ≤ 10000)) = true) : ∀ k, (putN l k).length ≤ (l.length + 7) / 8 + 10010 * k := by
  have hr : ∀ k : Nat, (rd_T39 l k).f2.size ≤ 10000 := by
    intro k
    by_cases h : k < l.length
    · rw [List.all_eq_true] at hs
      simpa using hs _ (rdT_mem h)
    · have e : rd_T39 l k = z39 := by simp [rd_T39, List.getD_eq_getElem?_getD, List.getElem?_eq_none (by omega : l.length ≤ k)]
      rw [e]
      exact Nat.zero_le _
  intro k
  induction k with
  | zero => simp [putN]
  | succ k ih =>
    have := enc1_len _ (hr k)
    unfold putN putStep
    split <;> simp <;> omega
theorem fitN_succ (t : List Int) (l : List S39) (k : Nat) : fitN t l (k + 1) = (fitN t l k && rowMay (rd t k) (rd_T39 l k)) := by
  unfold fitN
  rw [List.range_succ, List.all_append]
  simp
theorem fitN_le (t : List Int) (l : List S39) (k n : Nat) (h : k < n) (hf : rowMay (rd t k) (rd_T39 l k) = false) : fitN t l n = false := by
  unfold fitN
  rw [List.all_eq_false]
  exact ⟨k, by simpa using h, by simp [hf]⟩
theorem Own.put {B : Nat} {w0 W : World} {g n c : Nat} {xs : List Int} (h : Own (Kd.int .u8) 5 B w0 W (.slice (some ⟨g, 0, none⟩) n c) xs) (i : Nat) (y : Int) : Own (Kd.int .u8) 5 B w0 (W.setCell ⟨g, i, none⟩ (.int .u8 y)) (.slice (some ⟨g, 0, none⟩) n c) (xs.set i y) := by
  have h1 := Kd.R_putn h.r (i : Int) y
  rw [Int.toNat_natCast] at h1
  have hg := Kd.R_base h.r g rfl
  exact ⟨h1, h.b.setCell hg _, by have := h.s; simpa [World.setCell] using this⟩
theorem Blk.put {W : World} {g b n c i : Nat} {o : Obj} (h : Blk W g o (.slice (some ⟨b, 0, none⟩) n c)) (y : Value) : Blk (W.setCell ⟨b, i, none⟩ y) g o (.slice (some ⟨b, 0, none⟩) n c) :=
  ⟨(Below.heap_setCell W ⟨b, i, none⟩ y g (fun e => h.n (by rw [e]; rfl))).trans h.h, h.n⟩
def GP46.T8 : Bool × List (List Nat × List Nat) := (true, [([], []), ([], []), ([0, 1], [0, 1]), ([2], [2]), ([], []), ([3, 4], [3, 4]), ([5], [5])])
def GP46.B8 : List Nat := [0, 0, 3, 7, 0, 31, 63]
theorem GP46.tab8 : rtab .any (opsOf Try.f46 8) = GP46.T8 := by kernel_rfl
theorem GP46.bits8 : waitsOk GP46.T8.2 GP46.B8 = true := by kernel_rfl
def GP46.T11 : Bool × List (List Nat × List Nat) := (true, [([], []), ([], []), ([1], [1]), ([0, 2], [0, 2]), ([3], [3]), ([], []), ([5], [5]), ([6], [6]), ([4, 7], [4, 7]), ([0, 2, 0, 1, 2, 3, 4, 5, 6, 7, 8], [0, 2]), ([9, 8, 0, 1, 2, 3, 4, 5, 6, 7, 8], [8, 9])])
def GP46.B11 : List Nat := [0, 0, 2, 7, 15, 0, 32, 96, 255, 511, 1023]
theorem GP46.tab11 : rtab .any (opsOf Try.f46 11) = GP46.T11 := by kernel_rfl
theorem GP46.bits11 : waitsOk GP46.T11.2 GP46.B11 = true := by kernel_rfl
theorem mayB_kind (x : S39) (h : mayB x = true) : x.f0 = 0 ∨ x.f0 = 1 ∨ x.f0 = 2 ∨ x.f0 = 3 := by
  simp only [mayB, Bool.or_eq_true, Bool.and_eq_true, beq_iff_eq] at h
  omega
theorem u8_pow (j : Nat) (h : j < 8) : (2 : Int) ^ j % 256 = 2 ^ j := by
  have : j = 0 ∨ j = 1 ∨ j = 2 ∨ j = 3 ∨ j = 4 ∨ j = 5 ∨ j = 6 ∨ j = 7 := by omega
  rcases this with rfl | rfl | rfl | rfl | rfl | rfl | rfl | rfl <;> rfl
theorem zigs (x : S39) (hn : okNum x = true) : varint_Zig.f x.f1 = some (zig x.f1) ∧ 0 ≤ zig x.f1 ∧ zig x.f1 ≤ 18446744073709551615 := by
  simp only [okNum, Bool.and_eq_true, decide_eq_true_eq] at hn
  exact ⟨zig_f x.f1 hn.1 hn.2, zig_range x.f1 hn.1 hn.2⟩
set_option maxRecDepth 100000 in
set_option maxHeartbeats 1600000 in
theorem row_Put.calls (A0 : Option Addr) (c0 : Nat) (l0 : List Int) (A1 : Option Addr) (c1 : Nat) (l1 : List S39) (r1 : List Int) (r2 : Int) (w : World) (hr0 : Kd.C (Kd.int .u8) w A0 l0.length l0) (hc0 : l0.length ≤ c0) (hr1 : Kd.C k39 w A1 l1.length l1) (hc1 : l1.length ≤ c1) (h : row_Put.f l0 l1 = some (r1, r2)) :
    Calls Try.prog 46 #[.slice A0 l0.length c0, .slice A1 l1.length c1] w fun e w' => ∃ v0_ : Value, e = .returned (.tuple #[v0_, .int .i64 r2]) ∧ Kd.R (Kd.int .u8) 5 w' w.heap.size (fun _ => True) v0_ r1 ∧ Below w.heap.size w w' := by
  unfold row_Put.f at h
  split at h
  case isFalse => cases h
  rename_i hcond
  obtain ⟨ht, hl, hn, hs⟩ := hcond
  have HF := Aside0.mk (Option.some.inj h)
  have HR0 := Aside0.mk hr0
  have HR1 := Aside0.mk hr1
  have HN := Aside0.mk (And.intro hn hs)
  have HK := Aside0.mk (known_f l0 (by omega))
  clear h hr0 hr1 hn hs
  by_cases hkn : knownT l0 = true
  · rw [hkn] at HK
    by_cases hll : l1.length = l0.length
    · have q0 : ((l1.length : Int) != (l0.length : Int)) = false := by simp [hll]
      have q1 : ((l1.length : Int) == (l0.length : Int)) = true := by simp [hll]
      have hdv : ((l1.length : Int) + 7) / 8 = (((l1.length + 7) / 8 : Nat) : Int) := by omega
      have hdv2 : ((l1.length : Int) + 7).tdiv 8 = (((l1.length + 7) / 8 : Nat) : Int) := by rw [Int.tdiv_eq_ediv_of_nonneg (by omega)]; omega
      have HLL := Aside0.mk hll
      have HDV := Aside0.mk hdv
      clear hll hdv hdv2
      go_enter Try.func46, Try.ntmps46
      go_wp2_with (first
        | (go_at_call 83; refine (row_known.calls _ A0 c0 l0 true _ HR0.out hc0 HK.out).mono ?_; rintro e w1 ⟨rfl, hd1⟩; have HB1 := Aside0.mk hd1.below; clear hd1)
        | ((with_reducible refine gate_dst (N := 24) rfl ?_); refine Kd.R_make (Kd.int .u8) w.heap.size 5 rfl (N := 24) rfl 22 _ _ rfl (((l1.length : Int) + 7) / 8) rfl rfl Try.underlying22 (.int .u8 0) 1 info5 rfl (by decide) (by omega) 0 (ok := fun _ => True) (okp := fun _ => True) rfl (fun _ hk => hk) trivial (by omega) (by omega) HB1.out HB1.out.size ?_; intro v2 w2 ho hb hg hnew; have HO := Aside0.mk (Own.mk ho hb (Nat.le_trans HB1.out.size hg.size)); clear ho hb hg hnew)
        | (go_at_call 84; refine (ways_any _).mono ?_; rintro e w3 ⟨rfl, rfl⟩; have HO3 := Aside0.mk (HO.out.alloc (.map waysMap 3)); have BM := Aside0.mk (show Blk (w2.alloc (.map waysMap 3)) w2.heap.size (.map waysMap 3) v2 from ⟨heap_alloc_new w2 _, fun hk => Nat.lt_irrefl _ (HO.out.lt hk)⟩)))
      obtain ⟨gm, hgm⟩ : ∃ g, g = w2.heap.size := ⟨_, rfl⟩
      rw [← hgm] at BM ⊢
      clear hgm HO
      go_loopw [6, 8, 9, 28] (fun v6 v8 v9 v28 W => ∃ k : Nat, k ≤ l1.length ∧ v28 = .int .i64 k ∧ fitN l0 l1 k = true ∧ Aside0 (Own (Kd.int .u8) 5 w.heap.size w W v6 (putN l1 k)) ∧ Aside0 (Blk W gm (.map waysMap 3) v6)) (fun _ _ _ v28 _ => l1.length - (intOf v28).toNat)
      case atStart => exact ⟨0, Nat.zero_le _, rfl, rfl, ⟨HO3.out.of_cast (by rw [HDV.out, Int.toNat_natCast]; rfl)⟩, BM⟩
      case round =>
        clear HO3 BM
        obtain ⟨k, hk, rfl, hfit, HO, BM⟩ := hrel
        by_cases hlt : k < l1.length
        · obtain ⟨ad, e, hx0, hx1, hx2⟩ := at_T39 HR1.out k (by omega) (by omega)
          cases e
          have b0 := (HO.out.b.cell (World.block_lt_of_cell? w _ hx0)).trans hx0
          have b1 := (HO.out.b.cell (World.block_lt_of_cell? w _ hx1)).trans hx1
          have b2 := (HO.out.b.cell (World.block_lt_of_cell? w _ hx2)).trans hx2
          clear hx0 hx1 hx2
          rw [Int.toNat_natCast] at b0 b1 b2
          obtain ⟨at0, e, hy0⟩ := C_rd HR0.out k (by have := HLL.out; omega)
          cases e
          have y0 := (HO.out.b.cell (World.block_lt_of_cell? w _ hy0)).trans hy0
          have hkt : (k : Int) < (l0.length : Int) := by have := HLL.out; omega
          clear hy0
          obtain ⟨x, hx⟩ : ∃ x, x = rd_T39 l1 k := ⟨_, rfl⟩
          rw [← hx] at b0 b1 b2
          have hxm : x ∈ l1 := by rw [hx]; exact rdT_mem hlt
          have hno : okNum x = true := by have := HN.out.1; rw [List.all_eq_true] at this; exact this x hxm
          have hxs : x.f2.size ≤ 10000 := by have := HN.out.2; rw [List.all_eq_true] at this; simpa using this x hxm
          have HX := Aside0.mk hx
          clear hx
          have BB := Aside0.mk (Box.made HO.out #[.int .u8 x.f0, .int .i64 x.f1, .string x.f2] 39)
          have HS8 : Aside0 (∀ W' : World, Below (wr.alloc (.cells #[.int .u8 x.f0, .int .i64 x.f1, .string x.f2] 39)).heap.size (wr.alloc (.cells #[.int .u8 x.f0, .int .i64 x.f1, .string x.f2] 39)) W' → (Below (wr.alloc (.cells #[.int .u8 x.f0, .int .i64 x.f1, .string x.f2] 39)).heap.size (wr.alloc (.cells #[.int .u8 x.f0, .int .i64 x.f1, .string x.f2] 39)) W' ∧ W'.cell? (at0.add k) = some (.int .u8 (rd l0 k)) ∧ W'.cell? ⟨wr.heap.size, 0, none⟩ = some (.int .u8 x.f0) ∧ W'.cell? ⟨wr.heap.size, 1, none⟩ = some (.int .i64 x.f1) ∧ W'.cell? ⟨wr.heap.size, 2, none⟩ = some (.string x.f2))) := ⟨fun W' hW => by
            have g0 : (wr.alloc (.cells #[.int .u8 x.f0, .int .i64 x.f1, .string x.f2] 39)).cell? (at0.add k) = some (.int .u8 (rd l0 k)) := ((below_alloc (Below.refl _ _) _ : Below wr.heap.size wr (wr.alloc (.cells #[.int .u8 x.f0, .int .i64 x.f1, .string x.f2] 39))).cell (World.block_lt_of_cell? _ _ y0)).trans y0
            have up : ∀ {p : Addr} {v : Value}, (wr.alloc (.cells #[.int .u8 x.f0, .int .i64 x.f1, .string x.f2] 39)).cell? p = some v → W'.cell? p = some v := fun hv => (hW.cell (World.block_lt_of_cell? _ _ hv)).trans hv
            exact ⟨hW, up g0, up (BB.out.cell 0 rfl), up (BB.out.cell 1 rfl), up (BB.out.cell 2 rfl)⟩⟩
          have B1 := Aside0.mk (below_drew1 (Below.refl (wr.alloc (.cells #[.int .u8 x.f0, .int .i64 x.f1, .string x.f2] 39)).heap.size (wr.alloc (.cells #[.int .u8 x.f0, .int .i64 x.f1, .string x.f2] 39))))
          obtain ⟨bm, hbm⟩ : ∃ b, b = rowMay (rd l0 k) x := ⟨_, rfl⟩
          have HBM := Aside0.mk hbm
          have HMY := Aside0.mk (rowMay_f (rd l0 k) x hno (by omega))
          rw [← hbm] at HMY
          clear hbm
          have M85 : Aside0 (∀ W' : World, Below (wr.alloc (.cells #[.int .u8 x.f0, .int .i64 x.f1, .string x.f2] 39)).heap.size (wr.alloc (.cells #[.int .u8 x.f0, .int .i64 x.f1, .string x.f2] 39)) W' → Calls Try.prog 85 #[.int .u8 (rd l0 k), .agg #[.int .u8 x.f0, .int .i64 x.f1, .string x.f2]] W' fun e W2 => e = .returned (.bool bm) ∧ Below (wr.alloc (.cells #[.int .u8 x.f0, .int .i64 x.f1, .string x.f2] 39)).heap.size (wr.alloc (.cells #[.int .u8 x.f0, .int .i64 x.f1, .string x.f2] 39)) W2) := ⟨fun W' hW => (row_may.calls _ _ _ _ _ _ HMY.out).mono fun e W2 ⟨h1, h2⟩ => ⟨h1, below_then hW hW.size h2⟩⟩
          have HPL : Aside0 ((putN l1 k).length ≤ 1000000) := ⟨by have := putN_le l1 HN.out.2 k; omega⟩
          have HPG : Aside0 (k / 8 < (putN l1 k).length) := ⟨by have := putN_ge l1 k; omega⟩
          cases bm with
          | false =>
            go_wp2_with fail
            refine start_ (n := 7) (S := fun W' => Below (wr.alloc (.cells #[.int .u8 x.f0, .int .i64 x.f1, .string x.f2] 39)).heap.size (wr.alloc (.cells #[.int .u8 x.f0, .int .i64 x.f1, .string x.f2] 39)) W' ∧ W'.cell? (at0.add k) = some (.int .u8 (rd l0 k)) ∧ W'.cell? ⟨wr.heap.size, 0, none⟩ = some (.int .u8 x.f0) ∧ W'.cell? ⟨wr.heap.size, 1, none⟩ = some (.int .i64 x.f1) ∧ W'.cell? ⟨wr.heap.size, 2, none⟩ = some (.string x.f2)) (ds := []) #[false, false, false, false, false, false, false] (by kernel_rfl) rfl rfl (HS8.out _ B1.out) (fun hHeld => ?_)
            refine with_tabW GP46.tab8 GP46.bits8 (fun HT_ HW_ => ?_)
            refine pure_ (i := 0) (N := some 33) (v := ?_) (a' := ?_) #[true, false, false, false, false, false, false] rfl rfl (any_of HT_.out (by kernel_rfl)) (fun _ _ _ h => h) (Or.inl ⟨by rfl, ?_⟩) ?_ ?_
            rotate_left
            · intro w'
              go_simp
              with_reducible rfl
            rotate_left
            · simp only [Act.put, List.setIfInBounds_toArray, List.set_cons_zero, List.set_cons_succ, i64_w, i32_w]
              rfl
            refine pure_ (i := 1) (N := some 34) (v := ?_) (a' := ?_) #[true, true, false, false, false, false, false] rfl rfl (any_of HT_.out (by kernel_rfl)) (fun _ _ _ h => h) (Or.inl ⟨by rfl, ?_⟩) ?_ ?_
            rotate_left
            · intro w'
              go_simp
              with_reducible rfl
            rotate_left
            · simp only [Act.put, List.setIfInBounds_toArray, List.set_cons_zero, List.set_cons_succ, i64_w, i32_w]
              rfl
            refine pure_ (i := 2) (N := some 35) (v := ?_) (a' := ?_) #[true, true, true, false, false, false, false] rfl rfl (any_of HT_.out (by kernel_rfl)) (fun _ _ _ h => h) (Or.inl ⟨by rfl, ?_⟩) ?_ ?_
            rotate_left
            · intro w'
              go_simp
              with_reducible rfl
            rotate_left
            · simp only [Act.put, List.setIfInBounds_toArray, List.set_cons_zero, List.set_cons_succ, i64_w, i32_w]
              rfl
            refine take_ (i := 3) (N := some 36) (v := ?_) (a' := ?_) #[true, true, true, true, false, false, false] rfl rfl (take_ofW HT_.out HW_.out (by kernel_rfl)) (fun _ _ _ h => h) (Or.inl ⟨by rfl, ?_⟩) hHeld ?_ ?_
            rotate_left
            · intro w' s0
              (try dsimp only at s0)
              (try go_split_ands)
              go_simp
              with_reducible rfl
            rotate_left
            · simp only [Act.put, List.setIfInBounds_toArray, List.set_cons_zero, List.set_cons_succ, i64_w, i32_w]
              rfl
            refine take_ (i := 4) (N := some 37) (v := ?_) (a' := ?_) #[true, true, true, true, true, false, false] rfl rfl (take_ofW HT_.out HW_.out (by kernel_rfl)) (fun _ _ _ h => h) (Or.inl ⟨by rfl, ?_⟩) hHeld ?_ ?_
            rotate_left
            · intro w' s0
              (try dsimp only at s0)
              (try go_split_ands)
              go_simp
              with_reducible rfl
            rotate_left
            · simp only [Act.put, List.setIfInBounds_toArray, List.set_cons_zero, List.set_cons_succ, i64_w, i32_w]
              rfl
            refine one_ (i := 5) (N := some 38) #[true, true, true, true, true, true, false] rfl rfl (one_of HT_.out (by kernel_rfl)) (by decide) (fun K hK => ?_)
            refine goes_ Try.func85 (by kernel_rfl) rfl #[.int .u8 (rd l0 k), .agg #[.int .u8 x.f0, .int .i64 x.f1, .string x.f2]] (by rfl) rfl rfl (by (try simp only [List.map_toArray, List.map_cons, List.map_nil]); first | done | rfl) ?_
            refine (M85.out _ B1.out).mono ?_
            rintro e w4 ⟨rfl, hb4⟩
            have B4 := Aside0.mk hb4
            clear hb4
            refine ⟨_, rfl, ?_⟩
            refine hK.out _ _ (HS8.out _ B4.out) (fun hHeld => ?_)
            clear hK K
            refine norm_ (a' := ?_) ?_ ?_
            rotate_left
            · show Act.put _ (some 38) _ = _
              simp only [Act.put, List.setIfInBounds_toArray, List.set_cons_zero, List.set_cons_succ, i64_w, i32_w]
              rfl
            refine pure_ (i := 6) (N := some 39) (v := ?_) (a' := ?_) #[true, true, true, true, true, true, true] rfl rfl (any_of HT_.out (by kernel_rfl)) (fun _ _ _ h => h) (Or.inl ⟨by rfl, ?_⟩) ?_ ?_
            rotate_left
            · intro w'
              go_simp
              with_reducible rfl
            rotate_left
            · simp only [Act.put, List.setIfInBounds_toArray, List.set_cons_zero, List.set_cons_succ, i64_w, i32_w]
              rfl
            refine done_ (done_of HT_.out (by kernel_rfl)) ?_
            obtain ⟨_, c3, c0', c1', c2'⟩ := HS8.out _ B4.out
            have hw4 : Below wr.heap.size wr w4 := below_then (below_alloc (Below.refl _ _) _) (by simp) B4.out
            have HO4 := Aside0.mk (HO.out.step hw4)
            clear c3 hw4 c0' c1' c2'
            have HF2 := HF.out
            rw [if_neg (fun h => by rw [fitN_le l0 l1 k l1.length hlt (by rw [← HX.out]; exact HBM.out.symm)] at h; exact absurd h.2.2 (by decide))] at HF2
            injection HF2 with hf1 hf2
            subst hf1 hf2
            go_wp2_with fail
            go_ret2
            exact ⟨_, rfl, Kd.R_nil _ _ _ _ _, HO4.out.b⟩
          | true =>
            have hfit1 : Aside0 (fitN l0 l1 (k + 1) = true) := ⟨by rw [fitN_succ, hfit, ← HX.out, ← HBM.out]; rfl⟩
            go_wp2_with fail
            refine start_ (n := 7) (S := fun W' => Below (wr.alloc (.cells #[.int .u8 x.f0, .int .i64 x.f1, .string x.f2] 39)).heap.size (wr.alloc (.cells #[.int .u8 x.f0, .int .i64 x.f1, .string x.f2] 39)) W' ∧ W'.cell? (at0.add k) = some (.int .u8 (rd l0 k)) ∧ W'.cell? ⟨wr.heap.size, 0, none⟩ = some (.int .u8 x.f0) ∧ W'.cell? ⟨wr.heap.size, 1, none⟩ = some (.int .i64 x.f1) ∧ W'.cell? ⟨wr.heap.size, 2, none⟩ = some (.string x.f2)) (ds := []) #[false, false, false, false, false, false, false] (by kernel_rfl) rfl rfl (HS8.out _ B1.out) (fun hHeld => ?_)
            refine with_tabW GP46.tab8 GP46.bits8 (fun HT_ HW_ => ?_)
            refine pure_ (i := 0) (N := some 33) (v := ?_) (a' := ?_) #[true, false, false, false, false, false, false] rfl rfl (any_of HT_.out (by kernel_rfl)) (fun _ _ _ h => h) (Or.inl ⟨by rfl, ?_⟩) ?_ ?_
            rotate_left
            · intro w'
              go_simp
              with_reducible rfl
            rotate_left
            · simp only [Act.put, List.setIfInBounds_toArray, List.set_cons_zero, List.set_cons_succ, i64_w, i32_w]
              rfl
            refine pure_ (i := 1) (N := some 34) (v := ?_) (a' := ?_) #[true, true, false, false, false, false, false] rfl rfl (any_of HT_.out (by kernel_rfl)) (fun _ _ _ h => h) (Or.inl ⟨by rfl, ?_⟩) ?_ ?_
            rotate_left
            · intro w'
              go_simp
              with_reducible rfl
            rotate_left
            · simp only [Act.put, List.setIfInBounds_toArray, List.set_cons_zero, List.set_cons_succ, i64_w, i32_w]
              rfl
            refine pure_ (i := 2) (N := some 35) (v := ?_) (a' := ?_) #[true, true, true, false, false, false, false] rfl rfl (any_of HT_.out (by kernel_rfl)) (fun _ _ _ h => h) (Or.inl ⟨by rfl, ?_⟩) ?_ ?_
            rotate_left
            · intro w'
              go_simp
              with_reducible rfl
            rotate_left
            · simp only [Act.put, List.setIfInBounds_toArray, List.set_cons_zero, List.set_cons_succ, i64_w, i32_w]
              rfl
            refine take_ (i := 3) (N := some 36) (v := ?_) (a' := ?_) #[true, true, true, true, false, false, false] rfl rfl (take_ofW HT_.out HW_.out (by kernel_rfl)) (fun _ _ _ h => h) (Or.inl ⟨by rfl, ?_⟩) hHeld ?_ ?_
            rotate_left
            · intro w' s0
              (try dsimp only at s0)
              (try go_split_ands)
              go_simp
              with_reducible rfl
            rotate_left
            · simp only [Act.put, List.setIfInBounds_toArray, List.set_cons_zero, List.set_cons_succ, i64_w, i32_w]
              rfl
            refine take_ (i := 4) (N := some 37) (v := ?_) (a' := ?_) #[true, true, true, true, true, false, false] rfl rfl (take_ofW HT_.out HW_.out (by kernel_rfl)) (fun _ _ _ h => h) (Or.inl ⟨by rfl, ?_⟩) hHeld ?_ ?_
            rotate_left
            · intro w' s0
              (try dsimp only at s0)
              (try go_split_ands)
              go_simp
              with_reducible rfl
            rotate_left
            · simp only [Act.put, List.setIfInBounds_toArray, List.set_cons_zero, List.set_cons_succ, i64_w, i32_w]
              rfl
            refine one_ (i := 5) (N := some 38) #[true, true, true, true, true, true, false] rfl rfl (one_of HT_.out (by kernel_rfl)) (by decide) (fun K hK => ?_)
            refine goes_ Try.func85 (by kernel_rfl) rfl #[.int .u8 (rd l0 k), .agg #[.int .u8 x.f0, .int .i64 x.f1, .string x.f2]] (by rfl) rfl rfl (by (try simp only [List.map_toArray, List.map_cons, List.map_nil]); first | done | rfl) ?_
            refine (M85.out _ B1.out).mono ?_
            rintro e w4 ⟨rfl, hb4⟩
            have B4 := Aside0.mk hb4
            clear hb4
            refine ⟨_, rfl, ?_⟩
            refine hK.out _ _ (HS8.out _ B4.out) (fun hHeld => ?_)
            clear hK K
            refine norm_ (a' := ?_) ?_ ?_
            rotate_left
            · show Act.put _ (some 38) _ = _
              simp only [Act.put, List.setIfInBounds_toArray, List.set_cons_zero, List.set_cons_succ, i64_w, i32_w]
              rfl
            refine pure_ (i := 6) (N := some 39) (v := ?_) (a' := ?_) #[true, true, true, true, true, true, true] rfl rfl (any_of HT_.out (by kernel_rfl)) (fun _ _ _ h => h) (Or.inl ⟨by rfl, ?_⟩) ?_ ?_
            rotate_left
            · intro w'
              go_simp
              with_reducible rfl
            rotate_left
            · simp only [Act.put, List.setIfInBounds_toArray, List.set_cons_zero, List.set_cons_succ, i64_w, i32_w]
              rfl
            refine done_ (done_of HT_.out (by kernel_rfl)) ?_
            obtain ⟨_, c3, c0', c1', c2'⟩ := HS8.out _ B4.out
            have hw4 : Below wr.heap.size wr w4 := below_then (below_alloc (Below.refl _ _) _) (by simp) B4.out
            have HO4 := Aside0.mk (HO.out.step hw4)
            have BM4 := Aside0.mk (BM.out.step hw4)
            clear c3 hw4
            have hmay : mayB x = true := by
              have := HBM.out
              unfold rowMay at this
              simp only [Bool.true_eq, Bool.and_eq_true] at this
              exact this.1
            have hkinds := mayB_kind x hmay
            clear hmay
            by_cases h0 : x.f0 = 0
            · have q0 : (x.f0 == 0) = true := by simp [h0]
              have HE : Aside0 (putStep (putN l1 k) k x = setBit (putN l1 k) k) := ⟨by unfold putStep setBit; rw [if_pos h0]⟩
              clear h0 hkinds
              go_wp2_with fail
              obtain ⟨g6, c6, e6, gb6, gl6, _⟩ := Kd.R_form HO4.out.r (by have := HPG.out; omega)
              subst e6
              obtain ⟨L, hL⟩ : ∃ L, L = putN l1 k := ⟨_, rfl⟩
              rw [← hL] at HO4 HPL HPG HE BM4 ⊢
              have HLL2 := Aside0.mk hL
              clear hL gb6 gl6
              obtain ⟨jq, hjq⟩ : ∃ j, j = k / 8 := ⟨_, rfl⟩
              obtain ⟨jr, hjr⟩ : ∃ j, j = k % 8 := ⟨_, rfl⟩
              have HJ := Aside0.mk (And.intro hjq hjr)
              have n1 : (k : Int).tdiv 8 = (jq : Int) := by rw [Int.tdiv_eq_ediv_of_nonneg (by omega)]; omega
              have n2 : (k : Int) / 8 = (jq : Int) := by omega
              have n3 : (k : Int).tmod 8 = (jr : Int) := by rw [Int.tmod_eq_emod_of_nonneg (by omega)]; omega
              have n4 : (k : Int) % 8 = (jr : Int) := by omega
              have n5 : jr < 8 := by omega
              have n6 : (0 : Int) ≤ (jq : Int) := by omega
              have n7 : (jq : Int) < (L.length : Int) := by have := HPG.out; omega
              have n8 : jq < L.length := by have := HPG.out; omega
              clear hjq hjr
              obtain ⟨hx6, hf6⟩ := Kd.R_celln 0 HO4.out.r (jq : Int) n6 n7
              rw [Int.toNat_natCast] at hx6 hf6
              have p2 : ∃ P : Int, P = 2 ^ jr := ⟨_, rfl⟩
              obtain ⟨P2, hP2⟩ := p2
              have m1 : min jr 8 = jr := by omega
              have m2 : IntKind.u8.wrap (2 ^ jr) = 2 ^ jr := u8_pow jr n5
              have m3 : (2 : Int) ^ jr % 256 = 2 ^ jr := u8_pow jr n5
              have m4 : (0 : Int) ≤ (jr : Int) := by omega
              have m5 : (jr : Int) < 8 := by omega
              have n9 : wrap64 (jq : Int) = (jq : Int) := by unfold wrap64; omega
              refine start_ (n := 11) (S := fun W' => W'.cell? ⟨g6, jq, none⟩ = some (.int .u8 (rd L jq))) (ds := [10]) #[false, false, false, false, false, false, false, false, false, false, false] (by kernel_rfl) rfl rfl (hx6) (fun hHeld => ?_)
              refine with_tabW GP46.tab11 GP46.bits11 (fun HT_ HW_ => ?_)
              refine pure_ (i := 0) (N := some 43) (v := ?_) (a' := ?_) #[true, false, false, false, false, false, false, false, false, false, false] rfl rfl (any_of HT_.out (by kernel_rfl)) (fun _ _ _ h => h) (Or.inl ⟨by rfl, ?_⟩) ?_ ?_
              rotate_left
              · intro w'
                go_simp
                with_reducible rfl
              rotate_left
              · simp only [Act.put, List.setIfInBounds_toArray, List.set_cons_zero, List.set_cons_succ, i64_w, i32_w]
                rfl
              refine pure_ (i := 1) (N := some 44) (v := ?_) (a' := ?_) #[true, true, false, false, false, false, false, false, false, false, false] rfl rfl (any_of HT_.out (by kernel_rfl)) (fun _ _ _ h => h) (Or.inl ⟨by rfl, ?_⟩) ?_ ?_
              rotate_left
              · intro w'
                go_simp
                with_reducible rfl
              rotate_left
              · simp only [Act.put, List.setIfInBounds_toArray, List.set_cons_zero, List.set_cons_succ, i64_w, i32_w]
                rfl
              refine pure_ (i := 2) (N := some 45) (v := ?_) (a' := ?_) #[true, true, true, false, false, false, false, false, false, false, false] rfl rfl (any_of HT_.out (by kernel_rfl)) (fun _ _ _ h => h) (Or.inl ⟨by rfl, ?_⟩) ?_ ?_
              rotate_left
              · intro w'
                go_simp
                with_reducible rfl
              rotate_left
              · simp only [Act.put, List.setIfInBounds_toArray, List.set_cons_zero, List.set_cons_succ, i64_w, i32_w]
                rfl
              refine pure_ (i := 3) (N := some 46) (v := ?_) (a' := ?_) #[true, true, true, true, false, false, false, false, false, false, false] rfl rfl (any_of HT_.out (by kernel_rfl)) (fun _ _ _ h => h) (Or.inl ⟨by rfl, ?_⟩) ?_ ?_
              rotate_left
              · intro w'
                go_simp
                with_reducible rfl
              rotate_left
              · simp only [Act.put, List.setIfInBounds_toArray, List.set_cons_zero, List.set_cons_succ, i64_w, i32_w]
                rfl
              refine take_ (i := 4) (N := some 47) (v := ?_) (a' := ?_) #[true, true, true, true, true, false, false, false, false, false, false] rfl rfl (take_ofW HT_.out HW_.out (by kernel_rfl)) (fun _ _ _ h => h) (Or.inl ⟨by rfl, ?_⟩) hHeld ?_ ?_
              rotate_left
              · intro w' s0
                (try dsimp only at s0)
                (try go_split_ands)
                go_simp
                with_reducible rfl
              rotate_left
              · simp only [Act.put, List.setIfInBounds_toArray, List.set_cons_zero, List.set_cons_succ, i64_w, i32_w]
                rfl
              refine pure_ (i := 5) (N := some 48) (v := ?_) (a' := ?_) #[true, true, true, true, true, true, false, false, false, false, false] rfl rfl (any_of HT_.out (by kernel_rfl)) (fun _ _ _ h => h) (Or.inl ⟨by rfl, ?_⟩) ?_ ?_
              rotate_left
              · intro w'
                go_simp
                with_reducible rfl
              rotate_left
              · simp only [Act.put, List.setIfInBounds_toArray, List.set_cons_zero, List.set_cons_succ, i64_w, i32_w]
                rfl
              refine pure_ (i := 6) (N := some 49) (v := ?_) (a' := ?_) #[true, true, true, true, true, true, true, false, false, false, false] rfl rfl (any_of HT_.out (by kernel_rfl)) (fun _ _ _ h => h) (Or.inl ⟨by rfl, ?_⟩) ?_ ?_
              rotate_left
              · intro w'
                go_simp
                with_reducible rfl
              rotate_left
              · simp only [Act.put, List.setIfInBounds_toArray, List.set_cons_zero, List.set_cons_succ, i64_w, i32_w]
                rfl
              refine pure_ (i := 7) (N := some 50) (v := ?_) (a' := ?_) #[true, true, true, true, true, true, true, true, false, false, false] rfl rfl (any_of HT_.out (by kernel_rfl)) (fun _ _ _ h => h) (Or.inl ⟨by rfl, ?_⟩) ?_ ?_
              rotate_left
              · intro w'
                go_simp
                with_reducible rfl
              rotate_left
              · simp only [Act.put, List.setIfInBounds_toArray, List.set_cons_zero, List.set_cons_succ, i64_w, i32_w]
                rfl
              refine pure_ (i := 8) (N := some 51) (v := ?_) (a' := ?_) #[true, true, true, true, true, true, true, true, true, false, false] rfl rfl (any_of HT_.out (by kernel_rfl)) (fun _ _ _ h => h) (Or.inl ⟨by rfl, ?_⟩) ?_ ?_
              rotate_left
              · intro w'
                go_simp
                with_reducible rfl
              rotate_left
              · simp only [Act.put, List.setIfInBounds_toArray, List.set_cons_zero, List.set_cons_succ, i64_w, i32_w]
                rfl
              refine pure_ (i := 9) (N := some 52) (v := ?_) (a' := ?_) #[true, true, true, true, true, true, true, true, true, true, false] rfl rfl (any_of HT_.out (by kernel_rfl)) (fun _ _ _ h => h) (Or.inl ⟨by rfl, ?_⟩) ?_ ?_
              rotate_left
              · intro w'
                go_simp
                with_reducible rfl
              rotate_left
              · simp only [Act.put, List.setIfInBounds_toArray, List.set_cons_zero, List.set_cons_succ, i64_w, i32_w]
                rfl
              refine last_ (i := 10) (N := none) #[true, true, true, true, true, true, true, true, true, true, true] rfl rfl (one_of HT_.out (by kernel_rfl)) (by decide) (fun K hK => ?_)
              refine skip_ (w1 := ?_) (by rfl) rfl ?_ ?_
              rotate_left
              · go_simp
                rfl
              refine hK.out _ _ ?_
              clear hK K
              refine done_ (done_of HT_.out (by kernel_rfl)) ?_
              clear n9 m2
              go_wp2_with fail
              have HO5 := Aside0.mk ((HO4.out.put jq (bits .or .u8 (rd L (jq : Int)) (2 ^ jr))).drew)
              have BM5 := Aside0.mk ((BM4.out.put (i := jq) (.int .u8 (bits .or .u8 (rd L (jq : Int)) (2 ^ jr)))).drewN 1)
              go_roundw
              case rel => exact ⟨k + 1, by omega, by go_num, hfit1.out, ⟨HO5.out.of_cast (by rw [HJ.out.1, HJ.out.2, HLL2.out]; show _ = putStep (putN l1 k) k (rd_T39 l1 k); rw [← HX.out, ← HLL2.out, HE.out]; rfl)⟩, BM5⟩
              case measure => simp [intOf]; omega
            · by_cases h1 : x.f0 = 1
              · have q0 : (x.f0 == 0) = false := beq_eq_false_iff_ne.mpr h0
                have ML := (map_look (P := Try.prog) w4 Try.underlying100 Try.underlying5 BM4.out.h x.f0 (i := 0) (v := .agg #[.func (.func 121) #[] #[], .func (.func 122) #[] #[]]) (by rw [h1]; rfl)).2
                have hfd : ∀ (f g : Value) (W : World), (Instr.field 106 (.agg #[f, g]) 0).run Try.prog W = .ok f W := field106
                have HE : Aside0 (putStep (putN l1 k) k x = putN l1 k ++ [x.f1 % 256]) := ⟨by unfold putStep enc1; rw [if_neg h0]; rw [if_pos h1]⟩
                clear h0 h1
                go_wp2_with (first
                  | (go_at_call 121; refine (way_bool HO4.out (by have := HPL.out; omega) x).mono ?_; rintro e w5 ⟨v5, rfl, ho5, hf5⟩; have HO5 := Aside0.mk (ho5.of_cast HE.out.symm); have BM5 := Aside0.mk (hf5 _ _ BM4.out); clear ho5 hf5))
                go_roundw
                case rel => exact ⟨k + 1, by omega, by go_num, hfit1.out, ⟨HO5.out.of_cast (by rw [HX.out]; rfl)⟩, BM5⟩
                case measure => simp [intOf]; omega
              · by_cases h2 : x.f0 = 2
                · have q0 : (x.f0 == 0) = false := beq_eq_false_iff_ne.mpr h0
                  have HZ := Aside0.mk (zigs x hno)
                  have ML := (map_look (P := Try.prog) w4 Try.underlying100 Try.underlying5 BM4.out.h x.f0 (i := 1) (v := .agg #[.func (.func 123) #[] #[], .func (.func 125) #[] #[]]) (by rw [h2]; rfl)).2
                  have hfd : ∀ (f g : Value) (W : World), (Instr.field 106 (.agg #[f, g]) 0).run Try.prog W = .ok f W := field106
                  have HE : Aside0 (putStep (putN l1 k) k x = putN l1 k ++ vput 9 (zig x.f1)) := ⟨by unfold putStep enc1; rw [if_neg h0]; rw [if_neg h1, if_pos h2]⟩
                  clear h0 h1 h2
                  go_wp2_with (first
                    | (go_at_call 123; refine (way_int HO4.out (by have := HPL.out; omega) x (zig x.f1) HZ.out.1 HZ.out.2.1 HZ.out.2.2).mono ?_; rintro e w5 ⟨v5, rfl, ho5, hf5⟩; have HO5 := Aside0.mk (ho5.of_cast HE.out.symm); have BM5 := Aside0.mk (hf5 _ _ BM4.out); clear ho5 hf5))
                  go_roundw
                  case rel => exact ⟨k + 1, by omega, by go_num, hfit1.out, ⟨HO5.out.of_cast (by rw [HX.out]; rfl)⟩, BM5⟩
                  case measure => simp [intOf]; omega
                · have h3 : x.f0 = 3 := by omega
                  have q0 : (x.f0 == 0) = false := beq_eq_false_iff_ne.mpr h0
                  have ML := (map_look (P := Try.prog) w4 Try.underlying100 Try.underlying5 BM4.out.h x.f0 (i := 2) (v := .agg #[.func (.func 128) #[] #[], .func (.func 129) #[] #[]]) (by rw [h3]; rfl)).2
                  have hfd : ∀ (f g : Value) (W : World), (Instr.field 106 (.agg #[f, g]) 0).run Try.prog W = .ok f W := field106
                  have HE : Aside0 (putStep (putN l1 k) k x = putN l1 k ++ vput 9 x.f2.size ++ bytesOf x.f2) := ⟨by unfold putStep enc1; rw [if_neg h0]; rw [if_neg h1, if_neg h2, List.append_assoc]⟩
                  clear h0 h1 h2 h3
                  go_wp2_with (first
                    | (go_at_call 128; refine (way_text HO4.out HPL.out x (by omega)).mono ?_; rintro e w5 ⟨v5, rfl, ho5, hf5⟩; have HO5 := Aside0.mk (ho5.of_cast HE.out.symm); have BM5 := Aside0.mk (hf5 _ _ BM4.out); clear ho5 hf5))
                  go_roundw
                  case rel => exact ⟨k + 1, by omega, by go_num, hfit1.out, ⟨HO5.out.of_cast (by rw [HX.out]; rfl)⟩, BM5⟩
                  case measure => simp [intOf]; omega
        · obtain rfl : k = l1.length := by omega
          have HF2 := HF.out
          rw [if_pos ⟨hkn, HLL.out, hfit⟩] at HF2
          injection HF2 with hf1 hf2
          subst hf1 hf2
          go_wp2_with fail
          go_ret2
          exact ⟨_, rfl, HO.out.r, HO.out.b⟩
    · have HF2 := HF.out
      rw [if_neg (fun h => hll h.2.1)] at HF2
      injection HF2 with hf1 hf2
      subst hf1 hf2
      have q0 : ((l1.length : Int) != (l0.length : Int)) = true := by simp; omega
      have q1 : ((l1.length : Int) == (l0.length : Int)) = false := by simp; omega
      clear hll
      go_enter Try.func46, Try.ntmps46
      go_wp2_with (first
        | (go_at_call 83; refine (row_known.calls _ A0 c0 l0 true _ HR0.out hc0 HK.out).mono ?_; rintro e w1 ⟨rfl, hd1⟩; have HB1 := Aside0.mk hd1.below; clear hd1))
      go_ret2
      exact ⟨_, rfl, Kd.R_nil _ _ _ _ _, HB1.out⟩
  · have HF2 := HF.out
    rw [if_neg (fun h => hkn h.1)] at HF2
    injection HF2 with hf1 hf2
    subst hf1 hf2
    rw [Bool.not_eq_true] at hkn
    rw [hkn] at HK
    clear hkn
    go_enter Try.func46, Try.ntmps46
    go_wp2_with (first
      | (go_at_call 83; refine (row_known.calls _ A0 c0 l0 false _ HR0.out hc0 HK.out).mono ?_; rintro e w1 ⟨rfl, hd1⟩; have HB1 := Aside0.mk hd1.below; clear hd1))
    go_ret2
    exact ⟨_, rfl, Kd.R_nil _ _ _ _ _, HB1.out⟩
end Go.Proofs.Ytlmcefhpnfoahaa.P
end

section
namespace Go.Proofs.Ytlmcefhpnfoahaa.P
open Go.RowKit Go.Proofs.YtlmcefhpnfoahaaW.PrintWords Go.Proofs.YtlmcefhpnfoahaaW.PrintLast Go.Proofs.YtlmcefhpnfoahaaW.PrintMore
set_option linter.unusedVariables false
set_option linter.unusedSimpArgs false

def cells39 (x : S39) : List Value := [.int .u8 x.f0, .int .i64 x.f1, .string x.f2]
theorem R39_set {W : World} {B g n c : Nat} {ok : Nat → Prop} {xs : List S39} (h : Kd.R k39 39 W B ok (.slice (some ⟨g, 0, none⟩) n c) xs) (i f : Nat) (hf : f < 3) (u : Value) (y : S39) (hy : (cells39 (xs.getD i z39)).set f u = cells39 y) :
    Kd.R k39 39 (W.setCell ⟨g, i * 3 + f, none⟩ u) B ok (.slice (some ⟨g, 0, none⟩) n c) (xs.set i y) := by
  obtain ⟨h0, inner, hown, hr⟩ := h
  have hn := (Kd.R_reads' (show Kd.R k39 39 W B ok (.slice (some ⟨g, 0, none⟩) n c) xs from ⟨h0, inner, hown, hr⟩)).1
  subst hn
  obtain ⟨hs, _⟩ := hown.stored (i * 3 + f) u
  refine ⟨h0, inner.set (i * 3 + f) u, by rw [List.length_set]; exact hs, by rw [List.length_set, List.length_set]; exact hr.1, fun j p hj => ?_⟩
  rw [List.getElem?_set] at hj
  show k39.M _ _ _ _ ((List.drop (j * 3) _).take 3)
  rw [List.drop_set]
  by_cases e : i = j
  · subst e
    rw [if_pos rfl] at hj
    split at hj
    · rename_i hlt
      injection hj with hj
      subst hj
      rw [if_neg (by omega), show i * 3 + f - i * 3 = f by omega, List.take_set]
      have h3 := hr.2 i xs[i] (List.getElem?_eq_getElem hlt)
      have h4 : (inner.drop (i * 3)).take 3 = cells39 xs[i] := k39_openM h3
      have h5 : xs.getD i z39 = xs[i] := by simp [List.getD_eq_getElem?_getD, List.getElem?_eq_getElem hlt]
      rw [h5] at hy
      rw [h4, hy]
      exact k39_mkM _ _ _ _
    · cases hj
  · rw [if_neg e] at hj
    have h3 := hr.2 j p hj
    have h4 : (inner.drop (j * 3)).take 3 = cells39 p := k39_openM h3
    split
    · rw [h4]; exact k39_mkM _ _ _ _
    · rw [List.take_set, List.set_eq_of_length_le (by rw [List.length_take]; omega), h4]
      exact k39_mkM _ _ _ _
theorem Own.put0 {B : Nat} {w0 W : World} {g n c : Nat} {xs : List S39} (h : Own k39 39 B w0 W (.slice (some ⟨g, 0, none⟩) n c) xs) (i : Nat) (v : Int) : Own k39 39 B w0 (W.setCell ⟨g, i * 3, none⟩ (.int .u8 v)) (.slice (some ⟨g, 0, none⟩) n c) (xs.set i ⟨v, (xs.getD i z39).f1, (xs.getD i z39).f2⟩) :=
  ⟨R39_set h.r i 0 (by decide) _ _ rfl, h.b.setCell (Kd.R_base h.r g rfl) _, by have := h.s; simpa [World.setCell] using this⟩
theorem Own.put1 {B : Nat} {w0 W : World} {g n c : Nat} {xs : List S39} (h : Own k39 39 B w0 W (.slice (some ⟨g, 0, none⟩) n c) xs) (i : Nat) (v : Int) : Own k39 39 B w0 (W.setCell ⟨g, i * 3 + 1, none⟩ (.int .i64 v)) (.slice (some ⟨g, 0, none⟩) n c) (xs.set i ⟨(xs.getD i z39).f0, v, (xs.getD i z39).f2⟩) :=
  ⟨R39_set h.r i 1 (by decide) _ _ rfl, h.b.setCell (Kd.R_base h.r g rfl) _, by have := h.s; simpa [World.setCell] using this⟩
theorem Own.put2 {B : Nat} {w0 W : World} {g n c : Nat} {xs : List S39} (h : Own k39 39 B w0 W (.slice (some ⟨g, 0, none⟩) n c) xs) (i : Nat) (v : ByteArray) : Own k39 39 B w0 (W.setCell ⟨g, i * 3 + 2, none⟩ (.string v)) (.slice (some ⟨g, 0, none⟩) n c) (xs.set i ⟨(xs.getD i z39).f0, (xs.getD i z39).f1, v⟩) :=
  ⟨R39_set h.r i 2 (by decide) _ _ rfl, h.b.setCell (Kd.R_base h.r g rfl) _, by have := h.s; simpa [World.setCell] using this⟩
theorem set_set_get {xs : List S39} {i : Nat} (hi : i < xs.length) (a b : S39) : ((xs.set i a).set i b) = xs.set i b := List.set_set ..
/-- out[i] = x. -/
theorem Own.putV {B : Nat} {w0 W : World} {g n c : Nat} {xs : List S39} (h : Own k39 39 B w0 W (.slice (some ⟨g, 0, none⟩) n c) xs) (i : Nat) (hi : i < xs.length) (y : S39) :
    Own k39 39 B w0 (((W.setCell ⟨g, i * 3, none⟩ (.int .u8 y.f0)).setCell ⟨g, i * 3 + 1, none⟩ (.int .i64 y.f1)).setCell ⟨g, i * 3 + 2, none⟩ (.string y.f2)) (.slice (some ⟨g, 0, none⟩) n c) (xs.set i y) := by
  have h3 := ((h.put0 i y.f0).put1 i y.f1).put2 i y.f2
  refine h3.of_cast ?_
  rw [List.set_set, List.set_set]
  congr 1
  simp [List.getD_eq_getElem?_getD, hi]
/-- A store into an own row's block leaves another block alone. -/
theorem Blk.putC {W : World} {g b n c : Nat} {o : Obj} (h : Blk W g o (.slice (some ⟨b, 0, none⟩) n c)) (j : Nat) (y : Value) : Blk (W.setCell ⟨b, j, none⟩ y) g o (.slice (some ⟨b, 0, none⟩) n c) :=
  ⟨(Below.heap_setCell W ⟨b, j, none⟩ y g (fun e => h.n (by rw [e]; rfl))).trans h.h, h.n⟩
end Go.Proofs.Ytlmcefhpnfoahaa.P
end

section
namespace Go.Proofs.Ytlmcefhpnfoahaa.P
open Go.RowKit Go.Proofs.YtlmcefhpnfoahaaW.PrintWords Go.Proofs.YtlmcefhpnfoahaaW.PrintLast Go.Proofs.YtlmcefhpnfoahaaW.PrintMore
attribute [local go_sem] max2_int min2_int max_two min_two max_three min_three max_four min_four   -- for this text's walks alone
set_option linter.unusedVariables false
set_option linter.unusedSimpArgs false

/-! ### tidelineref02_Get: function 108 -/
mutual
def tidelineref02_Get.j1 : Nat → List Int → Int → Option (Int × Int × Int)
  | 0, _, _ => none
  | k + 1, x0, x5 => if x5 = (x0.length : Int) then (tidelineref02_Get.j2 k x0 x5 (decide (x5 < 10))) else (tidelineref02_Get.j2 k x0 x5 false)
def tidelineref02_Get.j2 : Nat → List Int → Int → Bool → Option (Int × Int × Int)
  | 0, _, _, _ => none
  | k + 1, x0, x5, x32 => if x32 = true then (some (0, 0, 20)) else (if x5 = 10 then (tidelineref02_Get.j3 k x0 x5 true) else (if x5 = 9 then (if 9 < (x0.length : Int) then (if (rd x0 9) > 1 then (tidelineref02_Get.j3 k x0 x5 true) else (if x5 > 0 then (if 0 ≤ x5 then (if x5 < (x0.length : Int) then (tidelineref02_Get.j3 k x0 x5 ((rd x0 x5) == 0)) else (none)) else (none)) else (tidelineref02_Get.j3 k x0 x5 false))) else (none)) else (if x5 > 0 then (if 0 ≤ x5 then (if x5 < (x0.length : Int) then (tidelineref02_Get.j3 k x0 x5 ((rd x0 x5) == 0)) else (none)) else (none)) else (tidelineref02_Get.j3 k x0 x5 false))))
def tidelineref02_Get.j3 : Nat → List Int → Int → Bool → Option (Int × Int × Int)
  | 0, _, _, _ => none
  | k + 1, x0, x5, x55 => if x55 = true then (some (0, 0, 21)) else (tidelineref02_Get.l1 k x0 x5 0 x5)
def tidelineref02_Get.l1 : Nat → List Int → Int → Int → Int → Option (Int × Int × Int)
  | 0, _, _, _, _ => none
  | k + 1, x0, x5, x6, x7 => if x7 ≥ 0 then (if 0 ≤ x7 then (if x7 < (x0.length : Int) then (tidelineref02_Get.l1 k x0 x5 (IntKind.u64.wrap ((IntKind.u64.wrap (x6 * 128)) + (IntKind.u64.wrap (Int.tmod (rd x0 x7) 128)))) (wrap64 (x7 - 1))) else (none)) else (none)) else (some (x6, wrap64 (x5 + 1), 0))
def tidelineref02_Get.l0 : Nat → List Int → Int → Option (Int × Int × Int)
  | 0, _, _ => none
  | k + 1, x0, x5 => if x5 < (x0.length : Int) then (if x5 < 10 then (if 0 ≤ x5 then (if (rd x0 x5) ≥ 128 then (tidelineref02_Get.l0 k x0 (wrap64 (x5 + 1))) else (tidelineref02_Get.j1 k x0 x5)) else (none)) else (tidelineref02_Get.j1 k x0 x5)) else (tidelineref02_Get.j1 k x0 x5)
end
def tidelineref02_Get.f (k : Nat) (l0 : List Int) : Option (Int × Int × Int) := tidelineref02_Get.l0 k l0 0
theorem tidelineref02_Get.mono_l : ∀ k, (∀ y0 y1, LeO (tidelineref02_Get.j1 k y0 y1) (tidelineref02_Get.j1 (k + 1) y0 y1)) ∧ (∀ y0 y1 y2, LeO (tidelineref02_Get.j2 k y0 y1 y2) (tidelineref02_Get.j2 (k + 1) y0 y1 y2)) ∧ (∀ y0 y1 y2, LeO (tidelineref02_Get.j3 k y0 y1 y2) (tidelineref02_Get.j3 (k + 1) y0 y1 y2)) ∧ (∀ y0 y1 y2 y3, LeO (tidelineref02_Get.l1 k y0 y1 y2 y3) (tidelineref02_Get.l1 (k + 1) y0 y1 y2 y3)) ∧ (∀ y0 y1, LeO (tidelineref02_Get.l0 k y0 y1) (tidelineref02_Get.l0 (k + 1) y0 y1))
  | 0 => ⟨fun _ _ r h => by simp [tidelineref02_Get.j1] at h, fun _ _ _ r h => by simp [tidelineref02_Get.j2] at h, fun _ _ _ r h => by simp [tidelineref02_Get.j3] at h, fun _ _ _ _ r h => by simp [tidelineref02_Get.l1] at h, fun _ _ r h => by simp [tidelineref02_Get.l0] at h⟩
  | k + 1 => by
    obtain ⟨ih0, ih1, ih2, ih3, ih4⟩ := tidelineref02_Get.mono_l k
    refine ⟨?_, ?_, ?_, ?_, ?_⟩
    · intro y0 y1
      unfold tidelineref02_Get.j1
      repeat' first
      | (with_reducible exact ih0 _ _)
      | (with_reducible exact ih1 _ _ _)
      | (with_reducible exact ih2 _ _ _)
      | (with_reducible exact ih3 _ _ _ _)
      | (with_reducible exact ih4 _ _)
      | (with_reducible exact LeO.refl _)
      | (with_reducible exact LeO.none _)
      | (with_reducible refine LeO.ite ?_ ?_)
      | (with_reducible refine LeO.bind ?_ (fun _ => ?_))
      | exact ih0 _ _
      | exact ih1 _ _ _
      | exact ih2 _ _ _
      | exact ih3 _ _ _ _
      | exact ih4 _ _
      | exact LeO.none _
      | refine LeO.ite ?_ ?_
      | refine LeO.bind ?_ (fun _ => ?_)
    · intro y0 y1 y2
      unfold tidelineref02_Get.j2
      repeat' first
      | (with_reducible exact ih0 _ _)
      | (with_reducible exact ih1 _ _ _)
      | (with_reducible exact ih2 _ _ _)
      | (with_reducible exact ih3 _ _ _ _)
      | (with_reducible exact ih4 _ _)
      | (with_reducible exact LeO.refl _)
      | (with_reducible exact LeO.none _)
      | (with_reducible refine LeO.ite ?_ ?_)
      | (with_reducible refine LeO.bind ?_ (fun _ => ?_))
      | exact ih0 _ _
      | exact ih1 _ _ _
      | exact ih2 _ _ _
      | exact ih3 _ _ _ _
      | exact ih4 _ _
      | exact LeO.none _
      | refine LeO.ite ?_ ?_
      | refine LeO.bind ?_ (fun _ => ?_)
    · intro y0 y1 y2
      unfold tidelineref02_Get.j3
      repeat' first
      | (with_reducible exact ih0 _ _)
      | (with_reducible exact ih1 _ _ _)
      | (with_reducible exact ih2 _ _ _)
      | (with_reducible exact ih3 _ _ _ _)
      | (with_reducible exact ih4 _ _)
      | (with_reducible exact LeO.refl _)
      | (with_reducible exact LeO.none _)
      | (with_reducible refine LeO.ite ?_ ?_)
      | (with_reducible refine LeO.bind ?_ (fun _ => ?_))
      | exact ih0 _ _
      | exact ih1 _ _ _
      | exact ih2 _ _ _
      | exact ih3 _ _ _ _
      | exact ih4 _ _
      | exact LeO.none _
      | refine LeO.ite ?_ ?_
      | refine LeO.bind ?_ (fun _ => ?_)
    · intro y0 y1 y2 y3
      unfold tidelineref02_Get.l1
      repeat' first
      | (with_reducible exact ih0 _ _)
      | (with_reducible exact ih1 _ _ _)
      | (with_reducible exact ih2 _ _ _)
      | (with_reducible exact ih3 _ _ _ _)
      | (with_reducible exact ih4 _ _)
      | (with_reducible exact LeO.refl _)
      | (with_reducible exact LeO.none _)
      | (with_reducible refine LeO.ite ?_ ?_)
      | (with_reducible refine LeO.bind ?_ (fun _ => ?_))
      | exact ih0 _ _
      | exact ih1 _ _ _
      | exact ih2 _ _ _
      | exact ih3 _ _ _ _
      | exact ih4 _ _
      | exact LeO.none _
      | refine LeO.ite ?_ ?_
      | refine LeO.bind ?_ (fun _ => ?_)
    · intro y0 y1
      unfold tidelineref02_Get.l0
      repeat' first
      | (with_reducible exact ih0 _ _)
      | (with_reducible exact ih1 _ _ _)
      | (with_reducible exact ih2 _ _ _)
      | (with_reducible exact ih3 _ _ _ _)
      | (with_reducible exact ih4 _ _)
      | (with_reducible exact LeO.refl _)
      | (with_reducible exact LeO.none _)
      | (with_reducible refine LeO.ite ?_ ?_)
      | (with_reducible refine LeO.bind ?_ (fun _ => ?_))
      | exact ih0 _ _
      | exact ih1 _ _ _
      | exact ih2 _ _ _
      | exact ih3 _ _ _ _
      | exact ih4 _ _
      | exact LeO.none _
      | refine LeO.ite ?_ ?_
      | refine LeO.bind ?_ (fun _ => ?_)
theorem tidelineref02_Get.mono : ∀ a0 k, LeO (tidelineref02_Get.f k a0) (tidelineref02_Get.f (k + 1) a0) := by
  intro a0 k
  obtain ⟨ih0, ih1, ih2, ih3, ih4⟩ := tidelineref02_Get.mono_l k
  unfold tidelineref02_Get.f
  repeat' first
      | (with_reducible exact ih0 _ _)
      | (with_reducible exact ih1 _ _ _)
      | (with_reducible exact ih2 _ _ _)
      | (with_reducible exact ih3 _ _ _ _)
      | (with_reducible exact ih4 _ _)
      | (with_reducible exact LeO.refl _)
      | (with_reducible exact LeO.none _)
      | (with_reducible refine LeO.ite ?_ ?_)
      | (with_reducible refine LeO.bind ?_ (fun _ => ?_))
      | exact ih0 _ _
      | exact ih1 _ _ _
      | exact ih2 _ _ _
      | exact ih3 _ _ _ _
      | exact ih4 _ _
      | exact LeO.none _
      | refine LeO.ite ?_ ?_
      | refine LeO.bind ?_ (fun _ => ?_)
set_option maxHeartbeats 8000000 in
set_option maxRecDepth 100000 in
theorem tidelineref02_Get.calls (k : Nat) (A0 : Option Addr) (c0 : Nat) (l0 : List Int) (r1 : Int) (r2 : Int) (r3 : Int) (w : World) (hr0 : Kd.C (Kd.int .u8) w A0 l0.length l0) (hc0 : l0.length ≤ c0) (h : tidelineref02_Get.f k l0 = some (r1, r2, r3)) :
    Calls Try.prog 108 #[.slice A0 l0.length c0] w fun e w' => e = .returned (.tuple #[.int .u64 r1, .int .i64 r2, .int .i64 r3]) ∧ Drawn0 w w' := by
  have HR0 := Aside0.mk hr0
  have HC0 := Aside0.mk hc0
  clear hr0 hc0
  have H : (tidelineref02_Get.l0 k l0 0) = some (r1, r2, r3) := h
  clear h
  have HC2 := Aside0.mk H
  clear H
  go_enter Try.func108, Try.ntmps108
  go_upto_block 0 with (fail)
  go_cut [5] (fun v5 wc => ∃ (kq : Nat) (x5_1 : Int), v5 = .int .i64 x5_1 ∧ Aside0 (tidelineref02_Get.j1 kq l0 x5_1 = some (r1, r2, r3)) ∧ Aside0 (kq ≤ k) ∧ Drawn0 w wc)
  case first =>
    have H := HC2.out
    clear HC2
    have H' := Aside0.mk H
    clear H
    go_wp2
    go_loopg [5] k (fun kq v5 w' => ∃ (x5_1 : Int), v5 = .int .i64 x5_1 ∧ Aside0 (tidelineref02_Get.l0 kq l0 x5_1 = some (r1, r2, r3)) ∧ Aside0 (kq ≤ k) ∧ Drawn0 w w')
    case atStart => exact ⟨(0), (by first | rfl | (simp; done) | (simp [*]; done)), H', ⟨Nat.le_refl _⟩, by repeat (first | exact Drawn0.refl _ | apply Drawn0.step)⟩
    case round =>
      clear H'
      try clear c1
      try clear p2
      obtain ⟨x5_1, rfl, HA, HK1, ⟨m1, rfl⟩⟩ := hrel
      cases gk with
      | zero => exact absurd HA.out (by simp [tidelineref02_Get.l0])
      | succ k1 =>
        have H := HA.out
        clear HA
        simp only [tidelineref02_Get.l0] at H
        by_cases c3 : x5_1 < (l0.length : Int)
        · rw [if_pos c3] at H
          have c3b0 : decide (x5_1 < (l0.length : Int)) = true := decide_eq_true c3
          clear c3
          (first | rw [c3b0] | (simp only [i64_w, i32_w]; rw [c3b0]) | skip)
          by_cases c4 : x5_1 < 10
          · rw [if_pos c4] at H
            have c4b0 : decide (x5_1 < 10) = true := decide_eq_true c4
            clear c4
            by_cases c5 : 0 ≤ x5_1
            · rw [if_pos c5] at H
              have c5b0 : decide (0 ≤ x5_1) = true := decide_eq_true c5
              clear c5
              by_cases c6 : (rd l0 x5_1) ≥ 128
              · rw [if_pos c6] at H
                have c6b0 : decide (128 ≤ (rd l0 x5_1)) = true := decide_eq_true c6
                clear c6
                have H' := Aside0.mk H
                clear H
                have p613 : 0 ≤ (x5_1 : Int) := of_decide_eq_true (by first | (with_reducible assumption) | assumption)
                have q613 : x5_1 < (l0.length : Int) := of_decide_eq_true (by first | (with_reducible assumption) | assumption)
                obtain ⟨ad613, e613, hx613_0⟩ := Kd.at_int HR0.out x5_1 p613 q613
                cases e613
                replace p613 := eq_true p613
                replace q613 := eq_true q613
                go_wp2
                go_roundg k1
                case measure => have := HK1.out; omega
                case rel => exact ⟨(wrap64 (x5_1 + 1)), (by first | rfl | (simp; done) | (simp [*]; done)), H', ⟨by have := HK1.out; omega⟩, by repeat (first | exact Drawn0.refl _ | apply Drawn0.step)⟩
              · rw [if_neg c6] at H
                have c6b0 : decide (128 ≤ (rd l0 x5_1)) = false := decide_eq_false c6
                clear c6
                have H' := Aside0.mk H
                clear H
                have p613 : 0 ≤ (x5_1 : Int) := of_decide_eq_true (by first | (with_reducible assumption) | assumption)
                have q613 : x5_1 < (l0.length : Int) := of_decide_eq_true (by first | (with_reducible assumption) | assumption)
                obtain ⟨ad613, e613, hx613_0⟩ := Kd.at_int HR0.out x5_1 p613 q613
                cases e613
                replace p613 := eq_true p613
                replace q613 := eq_true q613
                go_wp2
                go_meet
                case rel => exact ⟨_, (x5_1), (by first | rfl | (simp; done) | (simp [*]; done)), H', ⟨by have := HK1.out; first | omega | exact Nat.le_refl _⟩, by repeat (first | exact Drawn0.refl _ | apply Drawn0.step)⟩
            · rw [if_neg c5] at H
              exact absurd H (by simp)
          · rw [if_neg c4] at H
            have c4b0 : decide (x5_1 < 10) = false := decide_eq_false c4
            clear c4
            have H' := Aside0.mk H
            clear H
            go_wp2
            go_meet
            case rel => exact ⟨_, (x5_1), (by first | rfl | (simp; done) | (simp [*]; done)), H', ⟨by have := HK1.out; first | omega | exact Nat.le_refl _⟩, by repeat (first | exact Drawn0.refl _ | apply Drawn0.step)⟩
        · rw [if_neg c3] at H
          have c3b0 : decide (x5_1 < (l0.length : Int)) = false := decide_eq_false c3
          clear c3
          (first | rw [c3b0] | (simp only [i64_w, i32_w]; rw [c3b0]) | skip)
          have H' := Aside0.mk H
          clear H
          go_wp2
          go_meet
          case rel => exact ⟨_, (x5_1), (by first | rfl | (simp; done) | (simp [*]; done)), H', ⟨by have := HK1.out; first | omega | exact Nat.le_refl _⟩, by repeat (first | exact Drawn0.refl _ | apply Drawn0.step)⟩
  case rest =>
    clear HC2
    try clear c1
    try clear p2
    try clear c3
    try clear c3b0
    try clear c4
    try clear c4b0
    try clear c5
    try clear c5b0
    try clear c6
    try clear c6b0
    try clear p6
    try clear q6
    try clear hx6
    try clear hx613_0
    try clear p2
    try clear p613
    try clear q613
    obtain ⟨kq, x5_1, rfl, HA, HJ1, ⟨mc1, rfl⟩⟩ := hcut
    cases kq with
    | zero => exact absurd HA.out (by simp [tidelineref02_Get.j1])
    | succ kj1 =>
      have H := HA.out
      clear HA
      simp only [tidelineref02_Get.j1] at H
      have HC7 := Aside0.mk H
      clear H
      go_upto_region 4 with (fail)
      go_cut [32] (fun v32 wc => ∃ (kq : Nat) (x32_6 : Bool), v32 = .bool x32_6 ∧ Aside0 (tidelineref02_Get.j2 kq l0 x5_1 x32_6 = some (r1, r2, r3)) ∧ Aside0 (kq ≤ kj1) ∧ Drawn0 w wc)
      case first =>
        have H := HC7.out
        clear HC7
        by_cases c8 : x5_1 = (l0.length : Int)
        · rw [if_pos c8] at H
          have c8b0 : (x5_1 == (l0.length : Int)) = true := beq_iff_eq.mpr c8
          have c8b1 : (x5_1 != (l0.length : Int)) = false := bne_eq_false_iff_eq.mpr c8
          clear c8
          (first | rw [c8b0] | (simp only [i64_w, i32_w]; rw [c8b0]) | skip)
          have H' := Aside0.mk H
          clear H
          go_wp2
          go_meet
          case rel => exact ⟨_, (decide (x5_1 < 10)), (by first | rfl | (simp; done) | (simp [*]; done)), H', ⟨by have := HJ1.out; first | omega | exact Nat.le_refl _⟩, by repeat (first | exact Drawn0.refl _ | apply Drawn0.step)⟩
        · rw [if_neg c8] at H
          have c8b0 : (x5_1 == (l0.length : Int)) = false := beq_eq_false_iff_ne.mpr c8
          have c8b1 : (x5_1 != (l0.length : Int)) = true := bne_iff_ne.mpr c8
          (first | rw [c8b0] | (simp only [i64_w, i32_w]; rw [c8b0]) | skip)
          have H' := Aside0.mk H
          clear H
          go_wp2
          go_meet
          case rel => exact ⟨_, (false), (by first | rfl | (simp; done) | (simp [*]; done)), H', ⟨by have := HJ1.out; first | omega | exact Nat.le_refl _⟩, by repeat (first | exact Drawn0.refl _ | apply Drawn0.step)⟩
      case rest =>
        clear HC7
        try clear c1
        try clear p2
        try clear c3
        try clear c3b0
        try clear c4
        try clear c4b0
        try clear c5
        try clear c5b0
        try clear c6
        try clear c6b0
        try clear p6
        try clear q6
        try clear hx6
        try clear c8
        try clear c8b0
        try clear c8b1
        try clear hx613_0
        try clear p2
        try clear p6
        try clear p613
        try clear q6
        try clear q613
        obtain ⟨kq, x32_6, rfl, HA, HJ6, ⟨mc6, rfl⟩⟩ := hcut
        cases kq with
        | zero => exact absurd HA.out (by simp [tidelineref02_Get.j2])
        | succ kj6 =>
          have H := HA.out
          clear HA
          simp only [tidelineref02_Get.j2] at H
          by_cases c9 : x32_6 = true
          · subst c9
            have H1 : (some (0, 0, 20)) = some (r1, r2, r3) := by rw [if_pos rfl] at H; exact H
            clear H
            have H := H1
            clear H1
            simp only [Option.some.injEq, Prod.mk.injEq] at H
            obtain ⟨rfl, rfl, rfl⟩ := H
            go_wp2
            go_ret3
            exact ⟨by first | rfl | (simp; done) | (simp [*]; done), by repeat (first | exact Drawn0.refl _ | apply Drawn0.step)⟩
          · replace c9 := Bool.eq_false_iff.mpr c9
            subst c9
            have H1 : (if x5_1 = 10 then (tidelineref02_Get.j3 kj6 l0 x5_1 true) else (if x5_1 = 9 then (if 9 < (l0.length : Int) then (if (rd l0 9) > 1 then (tidelineref02_Get.j3 kj6 l0 x5_1 true) else (if x5_1 > 0 then (if 0 ≤ x5_1 then (if x5_1 < (l0.length : Int) then (tidelineref02_Get.j3 kj6 l0 x5_1 ((rd l0 x5_1) == 0)) else (none)) else (none)) else (tidelineref02_Get.j3 kj6 l0 x5_1 false))) else (none)) else (if x5_1 > 0 then (if 0 ≤ x5_1 then (if x5_1 < (l0.length : Int) then (tidelineref02_Get.j3 kj6 l0 x5_1 ((rd l0 x5_1) == 0)) else (none)) else (none)) else (tidelineref02_Get.j3 kj6 l0 x5_1 false)))) = some (r1, r2, r3) := by rw [if_neg (show ¬ (false = true) by decide)] at H; exact H
            clear H
            have H := H1
            clear H1
            have HC10 := Aside0.mk H
            clear H
            go_upto_region 6 with (fail)
            go_cut [55] (fun v55 wc => ∃ (kq : Nat) (x55_9 : Bool), v55 = .bool x55_9 ∧ Aside0 (tidelineref02_Get.j3 kq l0 x5_1 x55_9 = some (r1, r2, r3)) ∧ Aside0 (kq ≤ kj6) ∧ Drawn0 w wc)
            case first =>
              have H := HC10.out
              clear HC10
              by_cases c11 : x5_1 = 10
              · rw [if_pos c11] at H
                have c11b0 : (x5_1 == 10) = true := beq_iff_eq.mpr c11
                have c11b1 : (x5_1 != 10) = false := bne_eq_false_iff_eq.mpr c11
                clear c11
                (first | rw [c11b0] | (simp only [i64_w, i32_w]; rw [c11b0]) | skip)
                have H' := Aside0.mk H
                clear H
                go_wp2
                go_meet
                case rel => exact ⟨_, (true), (by first | rfl | (simp; done) | (simp [*]; done)), H', ⟨by have := HJ1.out; have := HJ6.out; first | omega | exact Nat.le_refl _⟩, by repeat (first | exact Drawn0.refl _ | apply Drawn0.step)⟩
              · rw [if_neg c11] at H
                have c11b0 : (x5_1 == 10) = false := beq_eq_false_iff_ne.mpr c11
                have c11b1 : (x5_1 != 10) = true := bne_iff_ne.mpr c11
                (first | rw [c11b0] | (simp only [i64_w, i32_w]; rw [c11b0]) | skip)
                by_cases c12 : x5_1 = 9
                · rw [if_pos c12] at H
                  have c12b0 : (x5_1 == 9) = true := beq_iff_eq.mpr c12
                  have c12b1 : (x5_1 != 9) = false := bne_eq_false_iff_eq.mpr c12
                  clear c12
                  by_cases c13 : 9 < (l0.length : Int)
                  · rw [if_pos c13] at H
                    have c13b0 : decide (9 < (l0.length : Int)) = true := decide_eq_true c13
                    have c13b1 : decide (9 < l0.length) = true := decide_eq_true (by omega)
                    clear c13
                    by_cases c14 : (rd l0 9) > 1
                    · rw [if_pos c14] at H
                      have c14b0 : decide (1 < (rd l0 9)) = true := decide_eq_true c14
                      clear c14
                      have H' := Aside0.mk H
                      clear H
                      have p614 : 0 ≤ (9 : Int) := (by omega)
                      have q614 : 9 < (l0.length : Int) := of_decide_eq_true (by first | (with_reducible assumption) | assumption)
                      obtain ⟨ad614, e614, hx614_0⟩ := Kd.at_int HR0.out 9 p614 q614
                      cases e614
                      (try simp only [show (9 : Int).toNat = 9 from rfl, Nat.reduceMul, Nat.reduceEqDiff, Go.Addr.add, ↓reduceIte] at hx614_0)
                      have qi614 : (9 < l0.length) = True := eq_true (by omega)
                      (try rw [show ((9 : Int)).toNat = 9 from rfl] at hx614_0)
                      replace p614 := eq_true p614
                      replace q614 := eq_true q614
                      go_wp2
                      go_meet
                      case rel => exact ⟨_, (true), (by first | rfl | (simp; done) | (simp [*]; done)), H', ⟨by have := HJ1.out; have := HJ6.out; first | omega | exact Nat.le_refl _⟩, by repeat (first | exact Drawn0.refl _ | apply Drawn0.step)⟩
                    · rw [if_neg c14] at H
                      have c14b0 : decide (1 < (rd l0 9)) = false := decide_eq_false c14
                      clear c14
                      by_cases c15 : x5_1 > 0
                      · rw [if_pos c15] at H
                        have c15b0 : decide (0 < x5_1) = true := decide_eq_true c15
                        clear c15
                        by_cases c16 : 0 ≤ x5_1
                        · rw [if_pos c16] at H
                          have c16b0 : decide (0 ≤ x5_1) = true := decide_eq_true c16
                          clear c16
                          by_cases c17 : x5_1 < (l0.length : Int)
                          · rw [if_pos c17] at H
                            have c17b0 : decide (x5_1 < (l0.length : Int)) = true := decide_eq_true c17
                            clear c17
                            have H' := Aside0.mk H
                            clear H
                            have p614 : 0 ≤ (9 : Int) := (by omega)
                            have q614 : 9 < (l0.length : Int) := of_decide_eq_true (by first | (with_reducible assumption) | assumption)
                            obtain ⟨ad614, e614, hx614_0⟩ := Kd.at_int HR0.out 9 p614 q614
                            cases e614
                            (try simp only [show (9 : Int).toNat = 9 from rfl, Nat.reduceMul, Nat.reduceEqDiff, Go.Addr.add, ↓reduceIte] at hx614_0)
                            have qi614 : (9 < l0.length) = True := eq_true (by omega)
                            (try rw [show ((9 : Int)).toNat = 9 from rfl] at hx614_0)
                            replace p614 := eq_true p614
                            replace q614 := eq_true q614
                            have p615 : 0 ≤ (x5_1 : Int) := of_decide_eq_true (by first | (with_reducible assumption) | assumption)
                            have q615 : x5_1 < (l0.length : Int) := of_decide_eq_true (by first | (with_reducible assumption) | assumption)
                            obtain ⟨ad615, e615, hx615_0⟩ := Kd.at_int HR0.out x5_1 p615 q615
                            obtain rfl : ad614 = ad615 := (by injection e615)
                            replace p615 := eq_true p615
                            replace q615 := eq_true q615
                            go_wp2
                            go_meet
                            case rel => exact ⟨_, (((rd l0 x5_1) == 0)), (by first | rfl | (simp; done) | (simp [*]; done)), H', ⟨by have := HJ1.out; have := HJ6.out; first | omega | exact Nat.le_refl _⟩, by repeat (first | exact Drawn0.refl _ | apply Drawn0.step)⟩
                          · rw [if_neg c17] at H
                            exact absurd H (by simp)
                        · rw [if_neg c16] at H
                          exact absurd H (by simp)
                      · rw [if_neg c15] at H
                        have c15b0 : decide (0 < x5_1) = false := decide_eq_false c15
                        clear c15
                        have H' := Aside0.mk H
                        clear H
                        have p614 : 0 ≤ (9 : Int) := (by omega)
                        have q614 : 9 < (l0.length : Int) := of_decide_eq_true (by first | (with_reducible assumption) | assumption)
                        obtain ⟨ad614, e614, hx614_0⟩ := Kd.at_int HR0.out 9 p614 q614
                        cases e614
                        (try simp only [show (9 : Int).toNat = 9 from rfl, Nat.reduceMul, Nat.reduceEqDiff, Go.Addr.add, ↓reduceIte] at hx614_0)
                        have qi614 : (9 < l0.length) = True := eq_true (by omega)
                        (try rw [show ((9 : Int)).toNat = 9 from rfl] at hx614_0)
                        replace p614 := eq_true p614
                        replace q614 := eq_true q614
                        go_wp2
                        go_meet
                        case rel => exact ⟨_, (false), (by first | rfl | (simp; done) | (simp [*]; done)), H', ⟨by have := HJ1.out; have := HJ6.out; first | omega | exact Nat.le_refl _⟩, by repeat (first | exact Drawn0.refl _ | apply Drawn0.step)⟩
                  · rw [if_neg c13] at H
                    exact absurd H (by simp)
                · rw [if_neg c12] at H
                  have c12b0 : (x5_1 == 9) = false := beq_eq_false_iff_ne.mpr c12
                  have c12b1 : (x5_1 != 9) = true := bne_iff_ne.mpr c12
                  by_cases c18 : x5_1 > 0
                  · rw [if_pos c18] at H
                    have c18b0 : decide (0 < x5_1) = true := decide_eq_true c18
                    clear c18
                    by_cases c19 : 0 ≤ x5_1
                    · rw [if_pos c19] at H
                      have c19b0 : decide (0 ≤ x5_1) = true := decide_eq_true c19
                      clear c19
                      by_cases c20 : x5_1 < (l0.length : Int)
                      · rw [if_pos c20] at H
                        have c20b0 : decide (x5_1 < (l0.length : Int)) = true := decide_eq_true c20
                        clear c20
                        have H' := Aside0.mk H
                        clear H
                        have p616 : 0 ≤ (x5_1 : Int) := of_decide_eq_true (by first | (with_reducible assumption) | assumption)
                        have q616 : x5_1 < (l0.length : Int) := of_decide_eq_true (by first | (with_reducible assumption) | assumption)
                        obtain ⟨ad616, e616, hx616_0⟩ := Kd.at_int HR0.out x5_1 p616 q616
                        cases e616
                        replace p616 := eq_true p616
                        replace q616 := eq_true q616
                        go_wp2
                        go_meet
                        case rel => exact ⟨_, (((rd l0 x5_1) == 0)), (by first | rfl | (simp; done) | (simp [*]; done)), H', ⟨by have := HJ1.out; have := HJ6.out; first | omega | exact Nat.le_refl _⟩, by repeat (first | exact Drawn0.refl _ | apply Drawn0.step)⟩
                      · rw [if_neg c20] at H
                        exact absurd H (by simp)
                    · rw [if_neg c19] at H
                      exact absurd H (by simp)
                  · rw [if_neg c18] at H
                    have c18b0 : decide (0 < x5_1) = false := decide_eq_false c18
                    clear c18
                    have H' := Aside0.mk H
                    clear H
                    go_wp2
                    go_meet
                    case rel => exact ⟨_, (false), (by first | rfl | (simp; done) | (simp [*]; done)), H', ⟨by have := HJ1.out; have := HJ6.out; first | omega | exact Nat.le_refl _⟩, by repeat (first | exact Drawn0.refl _ | apply Drawn0.step)⟩
            case rest =>
              clear HC10
              try clear c1
              try clear c2
              try clear p2
              try clear c3
              try clear c3b0
              try clear c4
              try clear c4b0
              try clear c5
              try clear c5b0
              try clear c6
              try clear c6b0
              try clear p6
              try clear q6
              try clear hx6
              try clear qi6
              try clear c8
              try clear c8b0
              try clear c8b1
              try clear c9
              try clear c10
              try clear c11
              try clear c11b0
              try clear c11b1
              try clear c12
              try clear c12b0
              try clear c12b1
              try clear c13
              try clear c13b0
              try clear c13b1
              try clear c14
              try clear c14b0
              try clear c15
              try clear c15b0
              try clear c16
              try clear c16b0
              try clear c17
              try clear c17b0
              try clear c18
              try clear c18b0
              try clear c19
              try clear c19b0
              try clear c20
              try clear c20b0
              try clear hx613_0
              try clear hx614_0
              try clear hx615_0
              try clear hx616_0
              try clear p2
              try clear p6
              try clear p613
              try clear p614
              try clear p615
              try clear p616
              try clear q6
              try clear q613
              try clear q614
              try clear q615
              try clear q616
              obtain ⟨kq, x55_9, rfl, HA, HJ9, ⟨mc9, rfl⟩⟩ := hcut
              cases kq with
              | zero => exact absurd HA.out (by simp [tidelineref02_Get.j3])
              | succ kj9 =>
                have H := HA.out
                clear HA
                simp only [tidelineref02_Get.j3] at H
                by_cases c21 : x55_9 = true
                · subst c21
                  have H1 : (some (0, 0, 21)) = some (r1, r2, r3) := by rw [if_pos rfl] at H; exact H
                  clear H
                  have H := H1
                  clear H1
                  simp only [Option.some.injEq, Prod.mk.injEq] at H
                  obtain ⟨rfl, rfl, rfl⟩ := H
                  go_wp2
                  go_ret3
                  exact ⟨by first | rfl | (simp; done) | (simp [*]; done), by repeat (first | exact Drawn0.refl _ | apply Drawn0.step)⟩
                · replace c21 := Bool.eq_false_iff.mpr c21
                  subst c21
                  have H1 : (tidelineref02_Get.l1 kj9 l0 x5_1 0 x5_1) = some (r1, r2, r3) := by rw [if_neg (show ¬ (false = true) by decide)] at H; exact H
                  clear H
                  have H := H1
                  clear H1
                  have H' := Aside0.mk H
                  clear H
                  go_wp2
                  go_loopg [6, 7] kj9 (fun kq v6 v7 w' => ∃ (x6_4 : Int) (x7_4 : Int), v6 = .int .u64 x6_4 ∧ v7 = .int .i64 x7_4 ∧ Aside0 (tidelineref02_Get.l1 kq l0 x5_1 x6_4 x7_4 = some (r1, r2, r3)) ∧ Aside0 (kq ≤ kj9) ∧ Drawn0 w w')
                  case atStart => exact ⟨(0), (x5_1), (by first | rfl | (simp; done) | (simp [*]; done)), (by first | rfl | (simp; done) | (simp [*]; done)), H', ⟨Nat.le_refl _⟩, by repeat (first | exact Drawn0.refl _ | apply Drawn0.step)⟩
                  case round =>
                    clear H'
                    try clear c1
                    try clear c2
                    try clear p2
                    try clear c3
                    try clear c3b0
                    try clear c4
                    try clear c4b0
                    try clear c5
                    try clear c5b0
                    try clear c6
                    try clear c6b0
                    try clear p6
                    try clear q6
                    try clear hx6
                    try clear qi6
                    try clear c8
                    try clear c8b0
                    try clear c8b1
                    try clear c9
                    try clear c10
                    try clear c11
                    try clear c11b0
                    try clear c11b1
                    try clear c12
                    try clear c12b0
                    try clear c12b1
                    try clear c13
                    try clear c13b0
                    try clear c13b1
                    try clear c14
                    try clear c14b0
                    try clear c15
                    try clear c15b0
                    try clear c16
                    try clear c16b0
                    try clear c17
                    try clear c17b0
                    try clear c18
                    try clear c18b0
                    try clear c19
                    try clear c19b0
                    try clear c20
                    try clear c20b0
                    try clear c21
                    try clear hx613_0
                    try clear hx614_0
                    try clear hx615_0
                    try clear hx616_0
                    try clear p2
                    try clear p6
                    try clear p613
                    try clear p614
                    try clear p615
                    try clear p616
                    try clear q6
                    try clear q613
                    try clear q614
                    try clear q615
                    try clear q616
                    obtain ⟨x6_4, x7_4, rfl, rfl, HA, HK4, ⟨m4, rfl⟩⟩ := hrel
                    cases gk with
                    | zero => exact absurd HA.out (by simp [tidelineref02_Get.l1])
                    | succ k4 =>
                      have H := HA.out
                      clear HA
                      simp only [tidelineref02_Get.l1] at H
                      by_cases c22 : x7_4 ≥ 0
                      · rw [if_pos c22] at H
                        have c22b0 : decide (0 ≤ x7_4) = true := decide_eq_true c22
                        clear c22
                        by_cases c23 : 0 ≤ x7_4
                        · rw [if_pos c23] at H
                          have c23b0 : decide (0 ≤ x7_4) = true := decide_eq_true c23
                          clear c23
                          by_cases c24 : x7_4 < (l0.length : Int)
                          · rw [if_pos c24] at H
                            have c24b0 : decide (x7_4 < (l0.length : Int)) = true := decide_eq_true c24
                            clear c24
                            have H' := Aside0.mk H
                            clear H
                            have p617 : 0 ≤ (x7_4 : Int) := of_decide_eq_true (by first | (with_reducible assumption) | assumption)
                            have q617 : x7_4 < (l0.length : Int) := of_decide_eq_true (by first | (with_reducible assumption) | assumption)
                            obtain ⟨ad617, e617, hx617_0⟩ := Kd.at_int HR0.out x7_4 p617 q617
                            cases e617
                            replace p617 := eq_true p617
                            replace q617 := eq_true q617
                            go_wp2
                            go_roundg k4
                            case measure => have := HJ1.out; have := HJ6.out; have := HJ9.out; have := HK4.out; omega
                            case rel => exact ⟨(IntKind.u64.wrap ((IntKind.u64.wrap (x6_4 * 128)) + (IntKind.u64.wrap (Int.tmod (rd l0 x7_4) 128)))), (wrap64 (x7_4 - 1)), (by first | rfl | (simp; done) | (simp [*]; done)), (by first | rfl | (simp; done) | (simp [*]; done)), H', ⟨by have := HJ1.out; have := HJ6.out; have := HJ9.out; have := HK4.out; omega⟩, by repeat (first | exact Drawn0.refl _ | apply Drawn0.step)⟩
                          · rw [if_neg c24] at H
                            exact absurd H (by simp)
                        · rw [if_neg c23] at H
                          exact absurd H (by simp)
                      · rw [if_neg c22] at H
                        have c22b0 : decide (0 ≤ x7_4) = false := decide_eq_false c22
                        clear c22
                        simp only [Option.some.injEq, Prod.mk.injEq] at H
                        obtain ⟨rfl, rfl, rfl⟩ := H
                        go_wp2
                        go_ret3
                        exact ⟨by first | rfl | (simp; done) | (simp [*]; done), by repeat (first | exact Drawn0.refl _ | apply Drawn0.step)⟩

end Go.Proofs.Ytlmcefhpnfoahaa.P
end

section
namespace Go.Proofs.Ytlmcefhpnfoahaa.P
open Go.RowKit Go.Proofs.YtlmcefhpnfoahaaW.PrintWords Go.Proofs.YtlmcefhpnfoahaaW.PrintLast Go.Proofs.YtlmcefhpnfoahaaW.PrintMore
attribute [local go_sem] max2_int min2_int max_two min_two max_three min_three max_four min_four   -- for this text's walks alone
set_option linter.unusedVariables false
set_option linter.unusedSimpArgs false

/-! ### tidelineref02_Put: function 130 -/
def tidelineref02_Put.l0 : Nat → Int → List Int → Option (List Int)
  | 0, _, _ => none
  | k + 1, x0, x3 => if (IntKind.u64.wrap (Int.tdiv x0 128)) = 0 then (if x3.length < 140737488355328 then (some (x3 ++ [(Int.tmod x0 128) % 256])) else (none)) else (if x3.length < 140737488355328 then (tidelineref02_Put.l0 k (IntKind.u64.wrap (Int.tdiv x0 128)) (x3 ++ [((Int.tmod x0 128) + 128) % 256])) else (none))
def tidelineref02_Put.f (k : Nat) (a0 : Int) : Option (List Int) := tidelineref02_Put.l0 k a0 ([] : List Int)
theorem tidelineref02_Put.mono_l : ∀ k, (∀ y0 y1, LeO (tidelineref02_Put.l0 k y0 y1) (tidelineref02_Put.l0 (k + 1) y0 y1))
  | 0 => fun _ _ r h => by simp [tidelineref02_Put.l0] at h
  | k + 1 => by
    have ih0 := tidelineref02_Put.mono_l k
    · intro y0 y1
      unfold tidelineref02_Put.l0
      repeat' first
      | (with_reducible exact ih0 _ _)
      | (with_reducible exact LeO.refl _)
      | (with_reducible exact LeO.none _)
      | (with_reducible refine LeO.ite ?_ ?_)
      | (with_reducible refine LeO.bind ?_ (fun _ => ?_))
      | exact ih0 _ _
      | exact LeO.none _
      | refine LeO.ite ?_ ?_
      | refine LeO.bind ?_ (fun _ => ?_)
theorem tidelineref02_Put.mono : ∀ a0 k, LeO (tidelineref02_Put.f k a0) (tidelineref02_Put.f (k + 1) a0) := by
  intro a0 k
  have ih0 := tidelineref02_Put.mono_l k
  unfold tidelineref02_Put.f
  repeat' first
      | (with_reducible exact ih0 _ _)
      | (with_reducible exact LeO.refl _)
      | (with_reducible exact LeO.none _)
      | (with_reducible refine LeO.ite ?_ ?_)
      | (with_reducible refine LeO.bind ?_ (fun _ => ?_))
      | exact ih0 _ _
      | exact LeO.none _
      | refine LeO.ite ?_ ?_
      | refine LeO.bind ?_ (fun _ => ?_)
set_option maxHeartbeats 8000000 in
set_option maxRecDepth 100000 in
theorem tidelineref02_Put.calls (k : Nat) (a0 : Int) (r : List Int) (w : World) (h : tidelineref02_Put.f k a0 = some r) :
    Calls Try.prog 130 #[.int .u64 a0] w fun e w' => ∃ v0_ : Value, e = .returned (v0_) ∧ Kd.R (Kd.int .u8) 5 w' w.heap.size (fun _ => True) v0_ r ∧ Below w.heap.size w w' := by
  have HB := Aside0.mk (Below.refl w.heap.size w)
  have H : (tidelineref02_Put.l0 k a0 ([] : List Int)) = some r := h
  clear h
  have H' := Aside0.mk H
  clear H
  go_enter Try.func130, Try.ntmps130
  go_wp2
  go_loopg [0, 3] k (fun kq v0 v3 w' => ∃ (x0_1 : Int) (x3_1 : List Int), v0 = .int .u64 x0_1 ∧ Aside0 (tidelineref02_Put.l0 kq x0_1 x3_1 = some r) ∧ Aside0 (kq ≤ k) ∧ Aside0 (Kd.R (Kd.int .u8) 5 w' w.heap.size (fun _ => True) v3 x3_1) ∧ Aside0 (Below w.heap.size w w'))
  case atStart => exact ⟨(a0), (([] : List Int)), (by first | rfl | (simp; done) | (simp [*]; done)), H', ⟨Nat.le_refl _⟩, ⟨by first | exact Kd.R_nil _ _ _ _ _ | exact Kd.N_nil _ _ _ _ _ | exact Kd.V_nil _ _ _ _ _ | exact Kd.Q_nil _ _ _ _ _ | exact Kd.S_nil _ _ _ _ _⟩, ⟨by repeat (first | (with_reducible first | exact HB.out | apply below_alloc | apply pw_below_drewN | apply below_drew1) | exact HB.out)⟩⟩
  case round =>
    clear H'
    try clear c1
    obtain ⟨x0_1, x3_1, rfl, HA, HK1, HO_3, HB⟩ := hrel
    cases gk with
    | zero => exact absurd HA.out (by simp [tidelineref02_Put.l0])
    | succ k1 =>
      have H := HA.out
      clear HA
      simp only [tidelineref02_Put.l0] at H
      by_cases c2 : (IntKind.u64.wrap (Int.tdiv x0_1 128)) = 0
      · rw [if_pos c2] at H
        have c2b0 : ((IntKind.u64.wrap (Int.tdiv x0_1 128)) == 0) = true := beq_iff_eq.mpr c2
        have c2b1 : ((IntKind.u64.wrap (Int.tdiv x0_1 128)) != 0) = false := bne_eq_false_iff_eq.mpr c2
        clear c2
        by_cases c3 : x3_1.length < 140737488355328
        · rw [if_pos c3] at H
          have LMc3 := Aside0.mk c3
          clear c3
          obtain ⟨y566, hy566⟩ : ∃ y_ : List Int, y_ = (x3_1 ++ [(Int.tmod x0_1 128) % 256]) := ⟨_, rfl⟩
          replace H : (some y566) = some r := by first | (rw [hy566]; with_reducible exact H) | (have H2_ := (Option.bind_some _ _).symm.trans H; rw [hy566]; with_reducible exact H2_) | (have H2_ := (Option.bind_some _ _).symm.trans H; with_reducible exact H2_) | with_reducible exact H | (rw [hy566]; exact H) | exact H
          have Ny566 := Aside0.mk hy566
          clear hy566
          obtain rfl := Option.some.inj H
          go_wp2_with (first | ((with_reducible refine gate_builtin (b := .append) (xs := #[.tmp 12, .tmp 14]) rfl ?_); at_builtin; refine Kd.R_append (Kd.int .u8) (w0 := w) w.heap.size rfl (.tmp 12) (.tmp 14) 22 5 (.int .u8 0) 1 rfl Try.underlying22 info5 rfl (by decide) (by omega) u3 x3_1 ((Int.tmod x0_1 128) % 256) [.int .u8 ((Int.tmod x0_1 128) % 256)] (fun _ => True) (fun _ => False) rfl rfl ?aP (fun _ hk => hk.elim) ?aF ?aO ?aB ?aS ?aL ?_; (case aP => exact rfl); (case aB => exact (by repeat (first | (with_reducible first | exact HB.out | apply below_alloc | apply pw_below_drewN | apply below_drew1) | exact HB.out))); (case aF => exact (fun _ _ => trivial)); (case aO => exact (by (with_reducible repeat (first | apply Kd.R_alloc | apply Kd.R_drewN | apply Kd.R_drew)); exact HO_3.out)); (case aS => exact (below_size (by repeat (first | (with_reducible first | exact HB.out | apply below_alloc | apply pw_below_drewN | apply below_drew1) | exact HB.out)))); (case aL => have := LMc3.out; omega); intro v567 w4 ho hb hg hat; rw [← Ny566.out] at ho; have n0_ := Aside0.mk (hb); have n1_ := Aside0.mk (ho); clear HB; clear HO_3; have HB := n0_; have HO568 := n1_; clear n0_ n1_; clear ho hb hg hat))
          go_ret
          exact ⟨_, by first | rfl | (simp [errW_none, errW_some] <;> rfl) | (simp [*, errW_none, errW_some] <;> rfl), by (with_reducible repeat (first | apply Kd.R_alloc | apply Kd.R_drewN | apply Kd.R_drew)); exact HO568.out, by repeat (first | (with_reducible first | exact HB.out | apply below_alloc | apply pw_below_drewN | apply below_drew1) | exact HB.out)⟩
        · rw [if_neg c3] at H
          exact absurd H (by simp)
      · rw [if_neg c2] at H
        have c2b0 : ((IntKind.u64.wrap (Int.tdiv x0_1 128)) == 0) = false := beq_eq_false_iff_ne.mpr c2
        have c2b1 : ((IntKind.u64.wrap (Int.tdiv x0_1 128)) != 0) = true := bne_iff_ne.mpr c2
        by_cases c5 : x3_1.length < 140737488355328
        · rw [if_pos c5] at H
          have LMc5 := Aside0.mk c5
          clear c5
          obtain ⟨y569, hy569⟩ : ∃ y_ : List Int, y_ = (x3_1 ++ [((Int.tmod x0_1 128) + 128) % 256]) := ⟨_, rfl⟩
          replace H : (tidelineref02_Put.l0 k1 (IntKind.u64.wrap (Int.tdiv x0_1 128)) y569) = some r := by first | (rw [hy569]; with_reducible exact H) | (have H2_ := (Option.bind_some _ _).symm.trans H; rw [hy569]; with_reducible exact H2_) | (have H2_ := (Option.bind_some _ _).symm.trans H; with_reducible exact H2_) | with_reducible exact H | (rw [hy569]; exact H) | exact H
          have Ny569 := Aside0.mk hy569
          clear hy569
          have H' := Aside0.mk H
          clear H
          go_wp2_with (first | ((with_reducible refine gate_builtin (b := .append) (xs := #[.tmp 16, .tmp 19]) rfl ?_); at_builtin; refine Kd.R_append (Kd.int .u8) (w0 := w) w.heap.size rfl (.tmp 16) (.tmp 19) 22 5 (.int .u8 0) 1 rfl Try.underlying22 info5 rfl (by decide) (by omega) u3 x3_1 (((Int.tmod x0_1 128) + 128) % 256) [.int .u8 (((Int.tmod x0_1 128) + 128) % 256)] (fun _ => True) (fun _ => False) rfl rfl ?aP (fun _ hk => hk.elim) ?aF ?aO ?aB ?aS ?aL ?_; (case aP => exact rfl); (case aB => exact (by repeat (first | (with_reducible first | exact HB.out | apply below_alloc | apply pw_below_drewN | apply below_drew1) | exact HB.out))); (case aF => exact (fun _ _ => trivial)); (case aO => exact (by (with_reducible repeat (first | apply Kd.R_alloc | apply Kd.R_drewN | apply Kd.R_drew)); exact HO_3.out)); (case aS => exact (below_size (by repeat (first | (with_reducible first | exact HB.out | apply below_alloc | apply pw_below_drewN | apply below_drew1) | exact HB.out)))); (case aL => have := LMc5.out; omega); intro v570 w6 ho hb hg hat; rw [← Ny569.out] at ho; have n0_ := Aside0.mk (hb); have n1_ := Aside0.mk (ho); clear HB; clear HO_3; have HB := n0_; have HO571 := n1_; clear n0_ n1_; clear ho hb hg hat))
          go_roundg k1
          case measure => have := HK1.out; omega
          case rel => exact ⟨(IntKind.u64.wrap (Int.tdiv x0_1 128)), (y569), (by first | rfl | (simp; done) | (simp [*]; done)), H', ⟨by have := HK1.out; omega⟩, ⟨by (with_reducible repeat (first | apply Kd.R_alloc | apply Kd.R_drewN | apply Kd.R_drew)); exact HO571.out⟩, ⟨by repeat (first | (with_reducible first | exact HB.out | apply below_alloc | apply pw_below_drewN | apply below_drew1) | exact HB.out)⟩⟩
        · rw [if_neg c5] at H
          exact absurd H (by simp)

end Go.Proofs.Ytlmcefhpnfoahaa.P
end

section
namespace Go.Proofs.Ytlmcefhpnfoahaa.P
open Go.RowKit Go.Proofs.YtlmcefhpnfoahaaW.PrintWords Go.Proofs.YtlmcefhpnfoahaaW.PrintLast Go.Proofs.YtlmcefhpnfoahaaW.PrintMore
attribute [local go_sem] max2_int min2_int max_two min_two max_three min_three max_four min_four   -- for this text's walks alone
set_option linter.unusedVariables false
set_option linter.unusedSimpArgs false

/-! ### tidelineref02_Zig: function 131 -/
def tidelineref02_Zig.f (a0 : Int) : Option (Int) := if a0 ≥ 0 then (some (IntKind.u64.wrap (2 * (IntKind.u64.wrap (a0))))) else (some (IntKind.u64.wrap ((IntKind.u64.wrap (2 * (IntKind.u64.wrap (wrap64 (-(wrap64 (a0 + 1))))))) + 1)))
set_option maxHeartbeats 8000000 in
set_option maxRecDepth 100000 in
theorem tidelineref02_Zig.calls (a0 : Int) (r : Int) (w : World) (h : tidelineref02_Zig.f a0 = some r) :
    Calls Try.prog 131 #[.int .i64 a0] w fun e w' => e = .returned (.int .u64 r) ∧ Drawn0 w w' := by
  have H : (if a0 ≥ 0 then (some (IntKind.u64.wrap (2 * (IntKind.u64.wrap (a0))))) else (some (IntKind.u64.wrap ((IntKind.u64.wrap (2 * (IntKind.u64.wrap (wrap64 (-(wrap64 (a0 + 1))))))) + 1)))) = some r := h
  clear h
  by_cases c2 : a0 ≥ 0
  · rw [if_pos c2] at H
    have c2b0 : decide (0 ≤ a0) = true := decide_eq_true c2
    clear c2
    obtain rfl := Option.some.inj H
    go_enter Try.func131, Try.ntmps131
    go_wp2
    go_ret
    exact ⟨by first | rfl | (simp; done) | (simp [*]; done), by repeat (first | exact Drawn0.refl _ | apply Drawn0.step)⟩
  · rw [if_neg c2] at H
    have c2b0 : decide (0 ≤ a0) = false := decide_eq_false c2
    clear c2
    obtain rfl := Option.some.inj H
    go_enter Try.func131, Try.ntmps131
    go_wp2
    go_ret
    exact ⟨by first | rfl | (simp; done) | (simp [*]; done), by repeat (first | exact Drawn0.refl _ | apply Drawn0.step)⟩

end Go.Proofs.Ytlmcefhpnfoahaa.P
end

section
namespace Go.Proofs.Ytlmcefhpnfoahaa.P
open Go.RowKit Go.Proofs.YtlmcefhpnfoahaaW.PrintWords Go.Proofs.YtlmcefhpnfoahaaW.PrintLast Go.Proofs.YtlmcefhpnfoahaaW.PrintMore
attribute [local go_sem] max2_int min2_int max_two min_two max_three min_three max_four min_four   -- for this text's walks alone
set_option linter.unusedVariables false
set_option linter.unusedSimpArgs false

/-! ### tidelineref02_Zag: function 132 -/
def tidelineref02_Zag.f (a0 : Int) : Option (Int) := if (Int.tmod a0 2) = 0 then (some (wrap64 (IntKind.u64.wrap (Int.tdiv a0 2)))) else (some (wrap64 ((wrap64 (-(wrap64 (IntKind.u64.wrap (Int.tdiv a0 2))))) - 1)))
set_option maxHeartbeats 8000000 in
set_option maxRecDepth 100000 in
theorem tidelineref02_Zag.calls (a0 : Int) (r : Int) (w : World) (h : tidelineref02_Zag.f a0 = some r) :
    Calls Try.prog 132 #[.int .u64 a0] w fun e w' => e = .returned (.int .i64 r) ∧ Drawn0 w w' := by
  have H : (if (Int.tmod a0 2) = 0 then (some (wrap64 (IntKind.u64.wrap (Int.tdiv a0 2)))) else (some (wrap64 ((wrap64 (-(wrap64 (IntKind.u64.wrap (Int.tdiv a0 2))))) - 1)))) = some r := h
  clear h
  by_cases c2 : (Int.tmod a0 2) = 0
  · rw [if_pos c2] at H
    have c2b0 : ((Int.tmod a0 2) == 0) = true := beq_iff_eq.mpr c2
    have c2b1 : ((Int.tmod a0 2) != 0) = false := bne_eq_false_iff_eq.mpr c2
    clear c2
    obtain rfl := Option.some.inj H
    go_enter Try.func132, Try.ntmps132
    go_wp2
    go_ret
    exact ⟨by first | rfl | (simp; done) | (simp [*]; done), by repeat (first | exact Drawn0.refl _ | apply Drawn0.step)⟩
  · rw [if_neg c2] at H
    have c2b0 : ((Int.tmod a0 2) == 0) = false := beq_eq_false_iff_ne.mpr c2
    have c2b1 : ((Int.tmod a0 2) != 0) = true := bne_iff_ne.mpr c2
    obtain rfl := Option.some.inj H
    go_enter Try.func132, Try.ntmps132
    go_wp2
    go_ret
    exact ⟨by first | rfl | (simp; done) | (simp [*]; done), by repeat (first | exact Drawn0.refl _ | apply Drawn0.step)⟩

end Go.Proofs.Ytlmcefhpnfoahaa.P
end

section
namespace Go.Proofs.Ytlmcefhpnfoahaa.P
open Go.RowKit Go.Proofs.YtlmcefhpnfoahaaW.PrintWords Go.Proofs.YtlmcefhpnfoahaaW.PrintLast Go.Proofs.YtlmcefhpnfoahaaW.PrintMore
set_option linter.unusedVariables false
set_option linter.unusedSimpArgs false

theorem uw (m : Int) : IntKind.u64.wrap m = m % 18446744073709551616 := rfl
/-- What the first i bytes, all of which go on, and the rest tell. -/
def joinV (i : Nat) (x : Int) (p : Int × Int × Int) : Int × Int × Int := if p.2.2 = 0 then (x + 128 ^ i * p.1, (i : Int) + p.2.1, 0) else (0, 0, p.2.2)
theorem joinV_zero (p : Int × Int × Int) (h : p.2.2 ≠ 0 → p = (0, 0, p.2.2)) : joinV 0 0 p = p := by
  unfold joinV
  split
  · rename_i h0
    obtain ⟨a, b, c⟩ := p
    simp at h0
    subst h0
    simp
  · rename_i h0
    exact (h h0).symm
theorem vg_err' (k : Nat) (l : List Int) (h : (vg k l).2.2 ≠ 0) : vg k l = (0, 0, (vg k l).2.2) := by
  rcases vg_err k l h with e | e <;> rw [e]
theorem vg0_one (c : Int) (r : List Int) (h : c = 1) : vg 0 (c :: r) = (1, 1, 0) := by unfold vg; rw [if_pos h]
theorem vg0_bad (c : Int) (r : List Int) (h : ¬ c = 1) : vg 0 (c :: r) = (0, 0, 21) := by unfold vg; rw [if_neg h]
theorem joinV_step (i k : Nat) (x c : Int) (r : List Int) (hc : ¬ c < 128) : joinV i x (vg (k + 1) (c :: r)) = joinV (i + 1) (x + c % 128 * 128 ^ i) (vg k r) := by
  unfold joinV
  conv => lhs; unfold vg
  rw [if_neg hc]
  by_cases h : (vg k r).2.2 = 0
  · simp only [h, if_true]
    rw [Int.pow_succ]
    congr 1
    · have e : (128 : Int) ^ i * (c % 128 + 128 * (vg k r).1) = c % 128 * 128 ^ i + 128 ^ i * 128 * (vg k r).1 := by
        rw [Int.mul_add, Int.mul_comm (128 ^ i) (c % 128), Int.mul_assoc]
      rw [e, Int.add_assoc]
    · congr 1; omega
  · simp only [h, if_false]
theorem and127 (c : Int) (h0 : 0 ≤ c) (h1 : c ≤ 255) : Go.bits .and .u8 c 127 = c % 128 := by
  have h : ∀ c : Nat, c < 256 → Go.bits .and .u8 (c : Int) 127 = (c : Int) % 128 := by decide +kernel
  have h2 := h c.toNat (by omega)
  rw [Int.toNat_of_nonneg h0] at h2
  exact h2
theorem pow128_two (i : Nat) : (128 : Int) ^ i = 2 ^ (7 * i) := by
  rw [show (128 : Int) = 2 ^ 7 from rfl, ← Int.pow_mul]
theorem pow128_le (i : Nat) (h : i ≤ 8) : (128 : Int) ^ (i + 1) ≤ 9223372036854775808 := by
  have : i = 0 ∨ i = 1 ∨ i = 2 ∨ i = 3 ∨ i = 4 ∨ i = 5 ∨ i = 6 ∨ i = 7 ∨ i = 8 := by omega
  rcases this with rfl | rfl | rfl | rfl | rfl | rfl | rfl | rfl | rfl <;> decide
/-- One byte more on top. -/
theorem or_at (i : Nat) (x v : Int) (h0 : 0 ≤ x) (h1 : x < 128 ^ i) (v0 : 0 ≤ v) (hv : v * 128 ^ i + x < 18446744073709551616) (hi : i ≤ 9) : Go.bits .or .u64 x (shl .u64 (IntKind.u64.wrap v) (wrap64 (7 * (i : Int)))) = x + v * 128 ^ i := by
  have hp := pow128 i
  have hv2 : v ≤ v * 128 ^ i := by
    have := Int.mul_le_mul_of_nonneg_left (show (1 : Int) ≤ 128 ^ i by omega) v0
    omega
  have e1 : wrap64 (7 * (i : Int)) = ((7 * i : Nat) : Int) := by unfold wrap64; omega
  have e2 : shl .u64 (IntKind.u64.wrap v) (wrap64 (7 * (i : Int))) = v * 128 ^ i := by
    unfold shl
    rw [e1, Int.toNat_natCast, show IntKind.u64.bits = 64 from rfl, Nat.min_eq_left (by omega), ← pow128_two, uw, uw, Int.emod_eq_of_lt v0 (by omega)]
    have hm : 0 ≤ v * 128 ^ i := Int.mul_nonneg v0 (by omega)
    rw [Int.emod_eq_of_lt hm (by omega)]
  have hm : 0 ≤ v * 128 ^ i := Int.mul_nonneg v0 (by omega)
  rw [e2, u64_or x _ h0 (by omega) hm (by omega)]
  have e3 : x.toNat ||| (v * 128 ^ i).toNat = x.toNat + (v * 128 ^ i).toNat := by
    have e4 : (v * 128 ^ i).toNat = 2 ^ (7 * i) * v.toNat := by
      rw [pow128_two, Int.toNat_mul v0 (by rw [← pow128_two]; omega), Nat.mul_comm]
      rw [show ((2 : Int) ^ (7 * i)) = ((2 ^ (7 * i) : Nat) : Int) by simp, Int.toNat_natCast]
    have e5 : x.toNat < 2 ^ (7 * i) := by
      have : ((2 ^ (7 * i) : Nat) : Int) = 128 ^ i := by rw [pow128_two]; simp
      omega
    rw [e4, Nat.or_comm, Nat.add_comm]
    exact (Nat.two_pow_add_eq_or_of_lt e5 v.toNat).symm
  rw [e3]
  omega
theorem get_l0 (l : List Int) (hl : l.length ≤ 1000000) (hb : ∀ x ∈ l, isByte x = true) : ∀ (d k i : Nat) (x : Int), i + d = 9 → 2 * d + 3 ≤ k → i ≤ l.length → 0 ≤ x → x < 128 ^ i → varint_Get.l0 k l x i = some (joinV i x (vg d (l.drop i))) := by
  intro d
  induction d with
  | zero =>
    intro k i x hi hk hil h0 h1
    obtain rfl : i = 9 := by omega
    obtain ⟨k, rfl⟩ : ∃ j, k = j + 1 + 1 := ⟨k - 2, by omega⟩
    unfold varint_Get.l0
    (try dsimp only)
    rw [if_pos (by decide)]
    by_cases he : l.length = 9
    · rw [if_pos (by omega), List.drop_of_length_le (by omega)]
      rfl
    · rw [if_neg (by omega), if_pos (by decide), if_pos (by omega), if_pos (by decide)]
      have hlt : 9 < l.length := by omega
      have er : rd l ((9 : Nat) : Int) = l[9] := by simp [rd, List.getD_eq_getElem?_getD, List.getElem?_eq_getElem hlt]
      have er' : rd l 9 = l[9] := er
      rw [List.drop_eq_getElem_cons hlt, er]
      have hc := rd_isByte hb 9 hlt
      rw [er] at hc
      unfold varint_Get.j1
      (try dsimp only)
      by_cases h2 : l[9] > 1
      · rw [if_pos (by simpa using h2)]
        rw [vg0_bad _ _ (by omega)]
        rfl
      · rw [if_neg (by simpa using h2), if_pos (by unfold wrap64; omega), if_pos (by omega)]
        by_cases h3 : l[9] = 0
        · rw [if_pos h3, if_pos (by decide)]
          rw [vg0_bad _ _ (by omega)]
          rfl
        · have h4 : l[9] = 1 := by omega
          rw [if_neg h3, and127 _ hc.1 hc.2, h4]
          have e := or_at 9 x 1 h0 h1 (by decide) (by
            have e9 : (128 : Int) ^ 9 = 9223372036854775808 := by decide
            omega) (by decide)
          rw [show (1 : Int) % 128 = 1 from rfl, e, vg0_one _ _ rfl, show wrap64 (((9 : Nat) : Int) + 1) = ((9 : Nat) : Int) + 1 by unfold wrap64; omega, Int.mul_comm]
          rfl
  | succ d ih =>
    intro k i x hi hk hil h0 h1
    obtain ⟨k, rfl⟩ : ∃ j, k = j + 1 + 1 := ⟨k - 2, by omega⟩
    unfold varint_Get.l0
    (try dsimp only)
    rw [if_pos (by omega)]
    by_cases he : l.length = i
    · rw [if_pos (by omega), List.drop_of_length_le (by omega)]
      rfl
    · have hlt : i < l.length := by omega
      rw [if_neg (by omega), if_pos (by omega), if_pos (by omega), if_neg (by omega)]
      have er : rd l (i : Int) = l[i] := by simp [rd, List.getD_eq_getElem?_getD, List.getElem?_eq_getElem hlt]
      have hc := rd_isByte hb i hlt
      rw [List.drop_eq_getElem_cons hlt, er]
      rw [er] at hc
      have ew : wrap64 (7 * (i : Int)) = 7 * (i : Int) := by unfold wrap64; omega
      have ew2 : wrap64 ((i : Int) + 1) = ((i + 1 : Nat) : Int) := w64s i (by omega)
      have hp := pow128 i
      have hple := pow128_le i (by omega)
      have hcm : l[i] % 128 * 128 ^ i ≤ 127 * 128 ^ i := Int.mul_le_mul_of_nonneg_right (by omega) (by omega)
      have hcm0 : 0 ≤ l[i] % 128 * 128 ^ i := Int.mul_nonneg (by omega) (by omega)
      rw [Int.pow_succ] at hple
      have eo := or_at i x (l[i] % 128) h0 h1 (by omega) (by omega) (by omega)
      unfold varint_Get.j1
      (try dsimp only)
      rw [if_neg (by decide), if_pos (by rw [ew]; omega), and127 _ hc.1 hc.2, eo, ew2]
      by_cases h7 : l[i] < 128
      · rw [if_pos h7]
        have em : l[i] % 128 = l[i] := by omega
        have hfin : (l[i] ≠ 0 ∨ i = 0) → joinV i x (vg (d + 1) (l[i] :: l.drop (i + 1))) = (x + l[i] % 128 * 128 ^ i, ((i + 1 : Nat) : Int), 0) := by
          intro hz
          have ev : vg (d + 1) (l[i] :: l.drop (i + 1)) = (l[i], 1, 0) := by
            unfold vg
            rw [if_pos h7, if_neg (by omega)]
          unfold joinV
          rw [ev, em, Int.mul_comm]
          rfl
        by_cases hz : l[i] = 0
        · rw [if_pos hz]
          by_cases hi0 : (i : Int) > 0
          · rw [if_pos hi0]
            have ev : vg (d + 1) (l[i] :: l.drop (i + 1)) = (0, 0, 21) := by
              unfold vg
              rw [if_pos h7, if_pos ⟨hz, by omega⟩]
            unfold joinV
            rw [ev]
            rfl
          · rw [if_neg hi0, hfin (Or.inr (by omega))]
        · rw [if_neg hz, hfin (Or.inl hz)]
      · rw [if_neg h7, joinV_step i d x _ _ h7]
        exact ih k (i + 1) _ (by omega) (by omega) (by omega) (by omega) (by rw [Int.pow_succ]; omega)
theorem get_f (l : List Int) (hl : l.length ≤ 1000000) (hb : ∀ x ∈ l, isByte x = true) : varint_Get.f 21 l = some (vget l) := by
  have := get_l0 l hl hb 9 21 0 0 rfl (by decide) (Nat.zero_le _) (by decide) (by decide)
  unfold varint_Get.f vget
  rw [List.drop_zero, joinV_zero _ (vg_err' 9 l)] at this
  exact this
theorem vget_range (l : List Int) (hb : ∀ x ∈ l, isByte x = true) : 0 ≤ (vget l).1 ∧ (vget l).1 ≤ 18446744073709551615 ∧ 0 ≤ (vget l).2.1 ∧ (vget l).2.1 ≤ l.length := by
  by_cases h : (vget l).2.2 = 0
  · obtain ⟨r, g1, g2, g3, g4⟩ := vput_vget l hb h
    have hl : l.length = (vput 9 (vget l).1).length + r.length := by rw [← List.length_append, ← g1]
    omega
  · have e := vg_err' 9 l h
    have e' : vget l = (0, 0, (vget l).2.2) := e
    rw [e']
    simp
theorem xor_zero_i64 (x : Int) (h0 : 0 ≤ x) (h1 : x ≤ 9223372036854775807) : Go.bits .xor .i64 x 0 = x := by
  unfold Go.bits
  have e1 : BitVec.ofInt IntKind.i64.bits 0 = 0#IntKind.i64.bits := by rfl
  have e2 : (BitVec.ofInt IntKind.i64.bits x).toNat = x.toNat := by
    rw [BitVec.toNat_ofInt]
    show (x % 18446744073709551616).toNat = _
    rw [Int.emod_eq_of_lt h0 (by omega)]
  dsimp only
  rw [e1, BitVec.xor_zero, e2]
  rw [i64_w, Int.toNat_of_nonneg h0]
  unfold wrap64
  omega
theorem xor_ones_i64 (x : Int) (h0 : 0 ≤ x) (h1 : x ≤ 9223372036854775807) : Go.bits .xor .i64 x (-1) = -x - 1 := by
  unfold Go.bits
  have e1 : BitVec.ofInt IntKind.i64.bits (-1) = BitVec.allOnes IntKind.i64.bits := by rfl
  have e2 : (BitVec.ofInt IntKind.i64.bits x).toNat = x.toNat := by
    rw [BitVec.toNat_ofInt]
    show (x % 18446744073709551616).toNat = _
    rw [Int.emod_eq_of_lt h0 (by omega)]
  dsimp only
  rw [e1, BitVec.xor_allOnes, BitVec.toNat_not, e2]
  rw [i64_w, show (2 ^ IntKind.i64.bits - 1 - x.toNat : Nat) = 18446744073709551615 - x.toNat from rfl]
  unfold wrap64
  omega
theorem zag_f (u : Int) (h0 : 0 ≤ u) (h1 : u ≤ 18446744073709551615) : varint_Zag.f u = some (zag u) := by
  unfold varint_Zag.f
  have ha : Go.bits .and .u64 u 1 = u % 2 := by
    rw [u64_and u 1 h0 (by omega) (by decide) (by decide)]
    have : u.toNat &&& (1 : Int).toNat = u.toNat % 2 := Nat.and_one_is_mod _
    rw [this]
    omega
  rw [ha]
  congr 1
  unfold zag
  by_cases h2 : u % 2 = 0
  · rw [if_pos h2, h2]
    have e1 : wrap64 (u / 2) = u / 2 := by unfold wrap64; omega
    rw [e1, show wrap64 (-(wrap64 0)) = 0 by unfold wrap64; omega, xor_zero_i64 _ (by omega) (by omega)]
  · have h3 : u % 2 = 1 := by omega
    rw [if_neg h2, h3]
    have e1 : wrap64 (u / 2) = u / 2 := by unfold wrap64; omega
    rw [e1, show wrap64 (-(wrap64 1)) = -1 by unfold wrap64; omega, xor_ones_i64 _ (by omega) (by omega)]
/-- The first i bytes' number. -/
def low (l : List Int) : Nat → Int
  | 0 => 0
  | i + 1 => low l i + rd l i % 128 * 128 ^ i
theorem low_range (l : List Int) : ∀ i, 0 ≤ low l i ∧ low l i < 128 ^ i := by
  intro i
  induction i with
  | zero => exact ⟨Int.le_refl _, by simp [low]⟩
  | succ i ih =>
    have hp := pow128 i
    have h1 : rd l i % 128 * 128 ^ i ≤ 127 * 128 ^ i := Int.mul_le_mul_of_nonneg_right (by omega) (by omega)
    have h2 : 0 ≤ rd l i % 128 * 128 ^ i := Int.mul_nonneg (by omega) (by omega)
    unfold low
    rw [Int.pow_succ]
    omega
/-- Up to byte i all go on. -/
theorem vg_low (l : List Int) : ∀ (i d : Nat), i + d = 9 → i ≤ l.length → (∀ j, j < i → ¬ rd l j < 128) → vg 9 l = joinV i (low l i) (vg d (l.drop i)) := by
  intro i
  induction i with
  | zero =>
    intro d hd _ _
    obtain rfl : d = 9 := by omega
    rw [List.drop_zero]
    exact (joinV_zero _ (vg_err' 9 l)).symm
  | succ i ih =>
    intro d hd hl h
    have hlt : i < l.length := by omega
    have er : rd l (i : Int) = l[i] := by simp [rd, List.getD_eq_getElem?_getD, List.getElem?_eq_getElem hlt]
    rw [ih (d + 1) (by omega) (by omega) (fun j hj => h j (by omega)), List.drop_eq_getElem_cons hlt, joinV_step i d _ _ _ (by rw [← er]; exact h i (by omega)), ← er]
    rfl
theorem tmod128 (x : Int) (h : 0 ≤ x) : Int.tmod x 128 = x % 128 := Int.tmod_eq_emod_of_nonneg h
/-- The bytes' number, out of the highest. -/
theorem ref_l1 (l : List Int) (hb : ∀ x ∈ l, isByte x = true) (hl : l.length ≤ 1000000) (n : Int) (N : Nat) (hN : N ≤ l.length) (hT : low l N ≤ 18446744073709551615) : ∀ (i k : Nat) (x : Int), i < k → i ≤ N → 0 ≤ x → x * 128 ^ i + low l i = low l N → tidelineref02_Get.l1 k l n x ((i : Int) - 1) = some (low l N, wrap64 (n + 1), 0) := by
  intro i
  induction i with
  | zero =>
    intro k x hk _ _ h
    obtain ⟨k, rfl⟩ : ∃ j, k = j + 1 := ⟨k - 1, by omega⟩
    unfold tidelineref02_Get.l1
    rw [if_neg (by decide)]
    simp [low] at h
    rw [h]
  | succ i ih =>
    intro k x hk hi h0 h
    obtain ⟨k, rfl⟩ : ∃ j, k = j + 1 := ⟨k - 1, by omega⟩
    have hlt : i < l.length := by omega
    have hc := rd_isByte hb i hlt
    have hp := pow128 i
    have hlo := low_range l i
    have e1 : ((i + 1 : Nat) : Int) - 1 = (i : Int) := by omega
    have e2 : wrap64 ((i : Int) - 1) = (i : Int) - 1 := by unfold wrap64; omega
    have e3 : (x * 128 + rd l i % 128) * 128 ^ i + low l i = low l N := by
      rw [← h]
      conv => rhs; unfold low
      rw [Int.add_mul, Int.pow_succ, Int.mul_assoc, Int.mul_comm (128 ^ i) 128]
      omega
    have e4 : x * 128 + rd l i % 128 ≤ low l N := by
      have := Int.mul_le_mul_of_nonneg_left (show (1 : Int) ≤ 128 ^ i by omega) (show 0 ≤ x * 128 + rd l i % 128 by omega)
      omega
    unfold tidelineref02_Get.l1
    rw [e1, if_pos (by omega), if_pos (by omega), if_pos (by omega), tmod128 _ hc.1, uw, uw, uw, e2]
    have e5 : ((x * 128) % 18446744073709551616 + rd l i % 128 % 18446744073709551616) % 18446744073709551616 = x * 128 + rd l i % 128 := by omega
    rw [e5]
    exact ih k _ (by omega) (by omega) (by omega) e3
theorem ref_j1 (l : List Int) (hl : l.length ≤ 1000000) (hb : ∀ x ∈ l, isByte x = true) (i k : Nat) (hi : i ≤ 10) (hil : i ≤ l.length) (h : ∀ j, j < i → ¬ rd l j < 128) (hs : i = l.length ∨ i = 10 ∨ rd l i < 128) (hk : 20 ≤ k) : tidelineref02_Get.j1 k l i = some (vg 9 l) := by
  obtain ⟨k, rfl⟩ : ∃ j, k = j + 1 + 1 + 1 := ⟨k - 3, by omega⟩
  by_cases h10 : i = 10
  · subst h10
    have hv : vg 9 l = (0, 0, 21) := by
      rw [vg_low l 9 0 rfl (by omega) (fun j hj => h j (by omega))]
      have hlt : 9 < l.length := by omega
      have er : rd l ((9 : Nat) : Int) = l[9] := by simp [rd, List.getD_eq_getElem?_getD, List.getElem?_eq_getElem hlt]
      have h9 := h 9 (by decide)
      rw [er] at h9
      rw [List.drop_eq_getElem_cons hlt]
      rw [vg0_bad _ _ (by omega)]
      rfl
    rw [hv]
    have e10 : ((10 : Nat) : Int) = 10 := rfl
    rw [e10]
    by_cases he : (10 : Int) = (l.length : Int)
    · rw [tidelineref02_Get.j1, if_pos he, tidelineref02_Get.j2, if_neg (by decide), if_pos rfl, tidelineref02_Get.j3, if_pos rfl]
    · rw [tidelineref02_Get.j1, if_neg he, tidelineref02_Get.j2, if_neg (by decide), if_pos rfl, tidelineref02_Get.j3, if_pos rfl]
  have hv := vg_low l i (9 - i) (by omega) hil h
  by_cases he : i = l.length
  · have e20 : vg 9 l = (0, 0, 20) := by
      rw [hv, List.drop_of_length_le (by omega)]
      cases 9 - i <;> rfl
    rw [e20]
    rw [tidelineref02_Get.j1, if_pos (by omega), tidelineref02_Get.j2, if_pos (by simp; omega)]
  have hlt : i < l.length := by omega
  have hc : rd l i < 128 := by rcases hs with h | h | h <;> first | exact absurd h (by assumption) | exact h
  have er : rd l (i : Int) = l[i] := by simp [rd, List.getD_eq_getElem?_getD, List.getElem?_eq_getElem hlt]
  have hc0 := (rd_isByte hb i hlt).1
  have hp := pow128 i
  have hlo := low_range l i
  rw [List.drop_eq_getElem_cons hlt, ← er] at hv
  -- the value
  have hval : ∀ q : Bool, q = false → (low l (i + 1) ≤ 18446744073709551615) → tidelineref02_Get.j3 (k + 1) l i q = some (low l (i + 1), ((i + 1 : Nat) : Int), 0) := by
    intro q hq hT
    subst hq
    rw [tidelineref02_Get.j3, if_neg (by decide)]
    have := ref_l1 l hb hl i (i + 1) (by omega) hT (i + 1) k 0 (by omega) (Nat.le_refl _) (by decide) (by simp)
    rw [show ((i + 1 : Nat) : Int) - 1 = (i : Int) by omega] at this
    rw [this, w64s i (by omega)]
  have hbad : ∀ q : Bool, q = true → tidelineref02_Get.j3 (k + 1) l i q = some (0, 0, 21) := by
    intro q hq
    subst hq
    rw [tidelineref02_Get.j3, if_pos rfl]
  rw [tidelineref02_Get.j1, if_neg (by omega), tidelineref02_Get.j2, if_neg (by decide), if_neg (by omega)]
  by_cases h9 : i = 9
  · subst h9
    rw [if_pos (by decide), if_pos (by omega)]
    have er9 : rd l 9 = rd l ((9 : Nat) : Int) := rfl
    rw [er9]
    have e99 : (128 : Int) ^ 9 = 9223372036854775808 := by decide
    by_cases h1 : rd l ((9 : Nat) : Int) > 1
    · rw [if_pos h1, hbad _ rfl, hv, vg0_bad _ _ (by omega)]
      rfl
    · rw [if_neg h1, if_pos (by decide), if_pos (by decide), if_pos (by omega)]
      by_cases h0 : rd l ((9 : Nat) : Int) = 0
      · rw [hbad _ (by simpa using h0), hv, vg0_bad _ _ (by omega)]
        rfl
      · have h11 : rd l ((9 : Nat) : Int) = 1 := by omega
        have hT : low l 10 = low l 9 + 9223372036854775808 := by
          conv => lhs; unfold low
          rw [h11, e99]
          rfl
        rw [hval _ (by simpa using h0) (by show low l 10 ≤ _; rw [hT]; omega), hv]
        rw [vg0_one _ _ h11]
        show some (low l 10, _, _) = some (low l 9 + 128 ^ 9 * 1, _, _)
        rw [hT, e99]
        rfl
  · have hd : ∃ d, 9 - i = d + 1 := ⟨8 - i, by omega⟩
    obtain ⟨d, hd⟩ := hd
    rw [hd] at hv
    rw [if_neg (by omega)]
    have hT : low l (i + 1) = low l i + 128 ^ i * rd l i := by
      conv => lhs; unfold low
      rw [show rd l i % 128 = rd l i by omega, Int.mul_comm]
    have hT2 : low l (i + 1) ≤ 18446744073709551615 := by
      have h1 := (low_range l (i + 1)).2
      have := pow128_le i (by omega)
      omega
    have hok : (rd l i ≠ 0 ∨ i = 0) → vg 9 l = (low l (i + 1), ((i + 1 : Nat) : Int), 0) := by
      intro hz
      have ev : vg (d + 1) (rd l (i : Int) :: l.drop (i + 1)) = (rd l i, 1, 0) := by
        unfold vg
        rw [if_pos hc, if_neg (by omega)]
      rw [hv, ev, hT]
      rfl
    by_cases hi0 : i = 0
    · subst hi0
      rw [if_neg (by decide), hval _ rfl hT2, hok (Or.inr rfl)]
    · rw [if_pos (by omega), if_pos (by omega), if_pos (by omega)]
      by_cases h0 : rd l (i : Int) = 0
      · have ev : vg (d + 1) (rd l (i : Int) :: l.drop (i + 1)) = (0, 0, 21) := by
          unfold vg
          rw [if_pos hc, if_pos ⟨h0, by omega⟩]
        rw [hbad _ (by simpa using h0), hv, ev]
        rfl
      · rw [hval _ (by simpa using h0) hT2, hok (Or.inl h0)]
theorem ref_l0 (l : List Int) (hl : l.length ≤ 1000000) (hb : ∀ x ∈ l, isByte x = true) : ∀ (d k i : Nat), i + d = 10 → d + 21 ≤ k → i ≤ l.length → (∀ j, j < i → ¬ rd l j < 128) → tidelineref02_Get.l0 k l i = some (vg 9 l) := by
  intro d
  induction d with
  | zero =>
    intro k i hi hk hil h
    obtain rfl : i = 10 := by omega
    obtain ⟨k, rfl⟩ : ∃ j, k = j + 1 := ⟨k - 1, by omega⟩
    unfold tidelineref02_Get.l0
    by_cases hlt : ((10 : Nat) : Int) < (l.length : Int)
    · rw [if_pos hlt, if_neg (by decide)]
      exact ref_j1 l hl hb 10 k (by decide) hil h (Or.inr (Or.inl rfl)) (by omega)
    · rw [if_neg hlt]
      exact ref_j1 l hl hb 10 k (by decide) hil h (Or.inr (Or.inl rfl)) (by omega)
  | succ d ih =>
    intro k i hi hk hil h
    obtain ⟨k, rfl⟩ : ∃ j, k = j + 1 := ⟨k - 1, by omega⟩
    unfold tidelineref02_Get.l0
    by_cases hlt : (i : Int) < (l.length : Int)
    · rw [if_pos hlt, if_pos (by omega), if_pos (by omega)]
      by_cases hc : rd l i ≥ 128
      · rw [if_pos hc, w64s i (by omega)]
        refine ih k (i + 1) (by omega) (by omega) (by omega) (fun j hj => ?_)
        by_cases hji : j = i
        · subst hji; omega
        · exact h j (by omega)
      · rw [if_neg hc]
        exact ref_j1 l hl hb i k (by omega) hil h (Or.inr (Or.inr (by omega))) (by omega)
    · rw [if_neg hlt]
      exact ref_j1 l hl hb i k (by omega) hil h (Or.inl (by omega)) (by omega)
theorem refGet_f (l : List Int) (hl : l.length ≤ 1000000) (hb : ∀ x ∈ l, isByte x = true) : tidelineref02_Get.f 31 l = some (vget l) := by
  unfold tidelineref02_Get.f
  exact ref_l0 l hl hb 10 31 0 rfl (by decide) (Nat.zero_le _) (by intro j hj; omega)
theorem refPut_l0 : ∀ (j k : Nat) (v : Int) (out : List Int), j < k → 0 ≤ v → v < 128 ^ (j + 1) → v ≤ 18446744073709551615 → out.length + j ≤ 1000000000 → tidelineref02_Put.l0 k v out = some (out ++ vput j v) := by
  intro j
  induction j with
  | zero =>
    intro k v out hk h0 h1 h2 ho
    obtain ⟨k, rfl⟩ : ∃ j, k = j + 1 := ⟨k - 1, by omega⟩
    have h1' : v < 128 := by simpa using h1
    unfold tidelineref02_Put.l0
    rw [tmod128 v h0, Int.tdiv_eq_ediv_of_nonneg h0, uw]
    have e1 : v / 128 % 18446744073709551616 = 0 := by omega
    have e2 : v % 128 % 256 = v := by omega
    rw [if_pos e1, if_pos (by omega), e2]
    rfl
  | succ j ih =>
    intro k v out hk h0 h1 h2 ho
    obtain ⟨k, rfl⟩ : ∃ j, k = j + 1 := ⟨k - 1, by omega⟩
    unfold tidelineref02_Put.l0 vput
    rw [tmod128 v h0, Int.tdiv_eq_ediv_of_nonneg h0, uw]
    have e1 : v / 128 % 18446744073709551616 = v / 128 := by omega
    rw [e1]
    by_cases hv : v ≥ 128
    · rw [if_neg (by omega), if_pos (by omega), if_pos hv]
      have e2 : (v % 128 + 128) % 256 = v % 128 + 128 := by omega
      have hd : v / 128 < 128 ^ (j + 1) := by
        rw [Int.pow_succ] at h1
        generalize (128 : Int) ^ (j + 1) = P at *
        omega
      rw [e2, ih k (v / 128) _ (by omega) (by omega) hd (by omega) (by simp; omega)]
      simp
    · have e2 : v % 128 % 256 = v := by omega
      rw [if_pos (by omega), if_pos (by omega), if_neg hv, e2]
theorem refPut_f (v : Int) (h0 : 0 ≤ v) (h1 : v ≤ 18446744073709551615) : tidelineref02_Put.f 10 v = some (vput 9 v) := by
  unfold tidelineref02_Put.f
  have := refPut_l0 9 10 v [] (by decide) h0 (by
    have : (128 : Int) ^ (9 + 1) = 1180591620717411303424 := by decide
    omega) h1 (by simp)
  simpa using this
theorem refZig_f (n : Int) (h1 : -9223372036854775808 ≤ n) (h2 : n ≤ 9223372036854775807) : tidelineref02_Zig.f n = some (zig n) := by
  unfold tidelineref02_Zig.f zig
  by_cases h0 : 0 ≤ n
  · rw [if_pos h0, if_pos h0, uw, uw]
    congr 1; omega
  · rw [if_neg h0, if_neg h0]
    have e1 : wrap64 (n + 1) = n + 1 := by unfold wrap64; omega
    have e2 : wrap64 (-(n + 1)) = -(n + 1) := by unfold wrap64; omega
    rw [e1, e2, uw, uw, uw]
    congr 1; omega
theorem refZag_f (u : Int) (h0 : 0 ≤ u) (h1 : u ≤ 18446744073709551615) : tidelineref02_Zag.f u = some (zag u) := by
  unfold tidelineref02_Zag.f zag
  rw [Int.tmod_eq_emod_of_nonneg h0, Int.tdiv_eq_ediv_of_nonneg h0, uw]
  have e0 : u / 2 % 18446744073709551616 = u / 2 := by omega
  have e1 : wrap64 (u / 2) = u / 2 := by unfold wrap64; omega
  rw [e0, e1]
  by_cases h2 : u % 2 = 0
  · rw [if_pos h2, if_pos h2]
  · rw [if_neg h2, if_neg h2]
    have e2 : wrap64 (-(u / 2)) = -(u / 2) := by unfold wrap64; omega
    have e3 : wrap64 (-(u / 2) - 1) = -(u / 2) - 1 := by unfold wrap64; omega
    rw [e2, e3]
end Go.Proofs.Ytlmcefhpnfoahaa.P
end

section
namespace Go.Proofs.Ytlmcefhpnfoahaa.P
open Go.RowKit Go.Proofs.YtlmcefhpnfoahaaW.PrintWords Go.Proofs.YtlmcefhpnfoahaaW.PrintLast Go.Proofs.YtlmcefhpnfoahaaW.PrintMore
set_option linter.unusedVariables false
set_option linter.unusedSimpArgs false

theorem and_one (c : Int) (h0 : 0 ≤ c) (h1 : c ≤ 255) : Go.bits .and .u8 c 1 = c % 2 := by
  have h : ∀ c : Nat, c < 256 → Go.bits .and .u8 (c : Int) 1 = (c : Int) % 2 := by decide +kernel
  have h2 := h c.toNat (by omega)
  rw [Int.toNat_of_nonneg h0] at h2
  exact h2
theorem shr_byte (c : Int) (j : Nat) (h0 : 0 ≤ c) (h1 : c ≤ 255) : 0 ≤ c / 2 ^ j ∧ c / 2 ^ j ≤ 255 := by
  have hp : (0 : Int) < 2 ^ j := Int.pow_pos (by decide)
  refine ⟨Int.ediv_nonneg h0 (by omega), ?_⟩
  have := Int.ediv_le_self (2 ^ j) h0
  omega
set_option maxRecDepth 100000 in
theorem null_any (g : Nat) (A : Option Addr) (n c : Nat) (hd : List Int) (W : World) (i : Nat) (hg : W.heap[g]? = some (.cells #[.slice A n c] 22 (0, 0))) (hC : Kd.C (Kd.int .u8) W A n hd) (hb : ∀ x ∈ hd, isByte x = true) (hi : i / 8 < n) (hm : i ≤ 1000000) :
    Calls Try.prog 87 #[.int .i64 i, .pointer (some ⟨g, 0, none⟩)] W fun e w' => e = .returned (.bool (bitAt hd i)) ∧ W = w' := by
  have hl := Kd.C_len hC
  obtain ⟨ad, e, hx⟩ := C_rd hC (i / 8) hi
  cases e
  have hc0 := rd_isByte hb (i / 8) (by omega)
  have q0 : W.cell? ⟨g, 0, none⟩ = some (.slice (some ad) n c) := blk_cell hg 0
  obtain ⟨jq, hjq⟩ : ∃ j, j = i / 8 := ⟨_, rfl⟩
  obtain ⟨jr, hjr⟩ : ∃ j, j = i % 8 := ⟨_, rfl⟩
  have HB : Aside0 (bitAt hd i = (rd hd (jq : Int) / 2 ^ jr % 2 == 1)) := ⟨by unfold bitAt; rw [hjq, hjr]⟩
  rw [← hjq] at hx hc0 hi
  have n1 : (i : Int).tdiv 8 = (jq : Int) := by rw [Int.tdiv_eq_ediv_of_nonneg (by omega)]; omega
  have n2 : (i : Int) / 8 = (jq : Int) := by omega
  have n3 : (i : Int).tmod 8 = (jr : Int) := by rw [Int.tmod_eq_emod_of_nonneg (by omega)]; omega
  have n4 : (i : Int) % 8 = (jr : Int) := by omega
  have n5 : jr < 8 := by omega
  have n6 : (0 : Int) ≤ (jq : Int) := by omega
  have n7 : (jq : Int) < (n : Int) := by omega
  have m1 : min jr 8 = jr := by omega
  have m4 : (0 : Int) ≤ (jr : Int) := by omega
  have m5 : (jr : Int) < 8 := by omega
  obtain ⟨C, hC2⟩ : ∃ C, C = rd hd (jq : Int) := ⟨_, rfl⟩
  rw [← hC2] at HB hx hc0
  have hs := shr_byte C jr hc0.1 hc0.2
  have m6 : Go.bits .and .u8 (C / 2 ^ jr) 1 = C / 2 ^ jr % 2 := and_one _ hs.1 hs.2
  clear hjq hjr hC2 hc0 hs hC hg hb hl
  go_enter Try.func87, Try.ntmps87
  go_wp2
  go_ret
  exact ⟨by rw [HB.out]; rfl, rfl⟩
def row_Get.f (t b : List Int) : Option (List S39 × Int) := if t.length ≤ 500 ∧ b.length ≤ 100000 ∧ (b.all isByte) = true then some (getRow t b) else none
theorem field106g (f g : Value) (W : World) : (Instr.field 106 (.agg #[f, g]) 1).run Try.prog W = .ok g W := by
  simp [Instr.field, go_sem, asAgg]
def finD (D : List S39) (p : List S39 × List Int × Int) : List S39 × Int := if p.2.2 ≠ 0 then ([], p.2.2) else if p.2.1.length > 0 then ([], 21) else (D ++ p.1, 0)
theorem finD_null (nul : Nat → Bool) (D : List S39) (t : Int) (ts : List Int) (i : Nat) (r : List Int) (h : nul i = true) : finD D (getVals nul (t :: ts) i r) = finD (D ++ [z39]) (getVals nul ts (i + 1) r) := by
  conv => lhs; unfold getVals
  rw [if_pos h]
  unfold finD
  simp
theorem finD_val (nul : Nat → Bool) (D : List S39) (t : Int) (ts : List Int) (i : Nat) (r : List Int) (h : nul i = false) (he : (getV t r).2.2 = 0) : finD D (getVals nul (t :: ts) i r) = finD (D ++ [(getV t r).1]) (getVals nul ts (i + 1) (r.drop (getV t r).2.1.toNat)) := by
  conv => lhs; unfold getVals
  rw [if_neg (by rw [h]; decide), if_pos he]
  unfold finD
  simp
theorem finD_err (nul : Nat → Bool) (D : List S39) (t : Int) (ts : List Int) (i : Nat) (r : List Int) (h : nul i = false) (he : ¬ (getV t r).2.2 = 0) : finD D (getVals nul (t :: ts) i r) = ([], (getV t r).2.2) := by
  conv => lhs; unfold getVals
  rw [if_neg (by rw [h]; decide), if_neg he]
  unfold finD
  rw [if_pos he]
theorem set_next (D : List S39) (m : Nat) (x : S39) : (D ++ List.replicate (m + 1) z39).set D.length x = (D ++ [x]) ++ List.replicate m z39 := by
  rw [List.set_append_right _ _ (Nat.le_refl _), Nat.sub_self, List.replicate_succ, List.set_cons_zero, List.append_assoc]
  rfl
theorem getV_range (t : Int) (l : List Int) (hb : ∀ x ∈ l, isByte x = true) : 0 ≤ (getV t l).2.1 ∧ (getV t l).2.1 ≤ l.length := by
  have h := vget_range l hb
  unfold getV getBool getInt getText
  split
  · split
    · exact ⟨Int.le_refl _, by dsimp only; omega⟩
    · split
      · exact ⟨Int.le_refl _, by dsimp only; omega⟩
      · exact ⟨by simp, by dsimp only; omega⟩
  · split
    · split
      · exact ⟨Int.le_refl _, by dsimp only; omega⟩
      · exact ⟨h.2.2.1, h.2.2.2⟩
    · split
      · exact ⟨Int.le_refl _, by dsimp only; omega⟩
      · split
        · exact ⟨Int.le_refl _, by dsimp only; omega⟩
        · exact ⟨by dsimp only; omega, by dsimp only; omega⟩
def GP49.T6 : Bool × List (List Nat × List Nat) := (true, [([], []), ([], []), ([0, 1], [0, 1]), ([], []), ([], []), ([3, 4], [3, 4]), ([], []), ([6, 2, 0, 1, 2, 6], [2, 6]), ([5, 7, 0, 1, 2, 3, 4, 5, 6, 7], [5])])
def GP49.B6 : List Nat := [0, 0, 3, 0, 0, 24, 0, 71, 255]
theorem GP49.tab6 : rtab .any (opsOf Try.f49 6) = GP49.T6 := by kernel_rfl
theorem GP49.bits6 : waitsOk GP49.T6.2 GP49.B6 = true := by kernel_rfl
def GP49.T22 : Bool × List (List Nat × List Nat) := (true, [([], []), ([], []), ([], []), ([], []), ([], []), ([3, 4], [3, 4]), ([0, 1, 0, 1, 2], [0, 1]), ([6, 2, 0, 1, 2], [2, 6]), ([5, 7, 0, 1, 2, 3, 4, 5, 6, 7], [3, 5])])
def GP49.B22 : List Nat := [0, 0, 0, 0, 0, 24, 7, 71, 255]
theorem GP49.tab22 : rtab .any (opsOf Try.f49 22) = GP49.T22 := by kernel_rfl
theorem GP49.bits22 : waitsOk GP49.T22.2 GP49.B22 = true := by kernel_rfl
set_option maxRecDepth 100000 in
set_option maxHeartbeats 1600000 in
theorem row_Get.calls (A0 : Option Addr) (c0 : Nat) (l0 : List Int) (A1 : Option Addr) (c1 : Nat) (l1 : List Int) (r1 : List S39) (r2 : Int) (w : World) (hr0 : Kd.C (Kd.int .u8) w A0 l0.length l0) (hc0 : l0.length ≤ c0) (hr1 : Kd.C (Kd.int .u8) w A1 l1.length l1) (hc1 : l1.length ≤ c1) (h : row_Get.f l0 l1 = some (r1, r2)) :
    Calls Try.prog 49 #[.slice A0 l0.length c0, .slice A1 l1.length c1] w fun e w' => ∃ v0_ : Value, e = .returned (.tuple #[v0_, .int .i64 r2]) ∧ Kd.R k39 39 w' w.heap.size (fun _ => True) v0_ r1 ∧ Below w.heap.size w w' := by
  unfold row_Get.f at h
  split at h
  case isFalse => cases h
  rename_i hcond
  obtain ⟨ht, hl, hby⟩ := hcond
  have hby' : ∀ x ∈ l1, isByte x = true := by rw [List.all_eq_true] at hby; exact hby
  have HBY := Aside0.mk hby'
  have HF := Aside0.mk (Option.some.inj h)
  have HR0 := Aside0.mk hr0
  have HR1 := Aside0.mk hr1
  have HK := Aside0.mk (known_f l0 (by omega))
  clear h hr0 hr1 hby hby'
  obtain ⟨N, hN⟩ : ∃ N, N = (l0.length + 7) / 8 := ⟨_, rfl⟩
  have hN1 : N ≤ 100 := by omega
  have hN2 : l0.length ≤ 8 * N := by omega
  have HN := Aside0.mk hN
  by_cases hkn : knownT l0 = true
  · rw [hkn] at HK
    have hdv : ((l0.length : Int) + 7) / 8 = (N : Int) := by omega
    have HKN := Aside0.mk hkn
    by_cases hsh : l1.length < N
    · have HF2 := HF.out
      unfold getRow at HF2
      rw [if_neg (by rw [hkn]; decide), if_pos (by rw [← hN]; exact hsh)] at HF2
      injection HF2 with hf1 hf2
      subst hf1 hf2
      have hdc : decide (l1.length < N) = true := decide_eq_true hsh
      clear hkn hN
      go_enter Try.func49, Try.ntmps49
      go_wp2_with (first
        | (go_at_call 83; refine (row_known.calls _ A0 c0 l0 true _ HR0.out hc0 HK.out).mono ?_; rintro e w1 ⟨rfl, hd1⟩; have HB1 := Aside0.mk hd1.below; clear hd1))
      go_ret2
      exact ⟨_, rfl, Kd.R_nil _ _ _ _ _, HB1.out⟩
    · have HF2 : Aside0 ((if loose l1 l0.length = true then (([] : List S39), (21 : Int)) else finD [] (getVals (bitAt l1) l0 0 (l1.drop N))) = (r1, r2)) := ⟨by
        have := HF.out
        unfold getRow at this
        rw [if_neg (by rw [hkn]; decide), if_neg (by rw [← hN]; exact hsh), ← hN] at this
        rw [← this]
        unfold finD
        simp⟩
      clear HF
      have hge : N ≤ l1.length := by omega
      obtain ⟨n1, kc1, hn1, hnc1, KC1⟩ := cut_to A1 l1.length c1 l1 (N : Int) rfl (by omega) (by omega) hc1
      obtain ⟨A8, n8, c8, kc8, hn8, hnc8, KC8⟩ := cut_from A1 l1.length c1 l1 (N : Int) rfl (by omega) (by omega) hc1
      rw [Int.toNat_natCast] at hn1 hn8 KC1 KC8
      subst hn1
      have HC1 := Aside0.mk (KC1 w HR1.out)
      have HC8 := Aside0.mk (KC8 w HR1.out)
      have HHB : Aside0 (∀ x ∈ l1.take n1, isByte x = true) := ⟨fun x hx => HBY.out x (List.mem_of_mem_take hx)⟩
      have HBT : Aside0 (∀ j, j < 8 * n1 → bitAt (l1.take n1) j = bitAt l1 j) := ⟨fun j hj => by
        have := bitAt_append (l1.take n1) (l1.drop n1) j (by rw [List.length_take]; omega)
        rw [List.take_append_drop] at this
        exact this.symm⟩
      have hdc : decide (l1.length < n1) = false := decide_eq_false hsh
      clear KC1 KC8 hkn hN hsh
      go_enter Try.func49, Try.ntmps49
      go_wp2_with (first
        | (go_at_call 83; refine (row_known.calls _ A0 c0 l0 true _ HR0.out hc0 HK.out).mono ?_; rintro e w1 ⟨rfl, hd1⟩; have HB1 := Aside0.mk hd1.below; clear hd1))
      refine start_ (n := 9) (S := fun _ => True) (ds := [7]) #[false, false, false, false, false, false, false, false, false] (by kernel_rfl) rfl rfl (trivial) (fun hHeld => ?_)
      refine with_tabW GP49.tab6 GP49.bits6 (fun HT_ HW_ => ?_)
      refine pure_ (i := 0) (N := some 29) (v := ?_) (a' := ?_) #[true, false, false, false, false, false, false, false, false] rfl rfl (any_of HT_.out (by kernel_rfl)) (fun _ _ _ h => h) (Or.inl ⟨by rfl, ?_⟩) ?_ ?_
      rotate_left
      · intro w'
        go_simp
        with_reducible rfl
      rotate_left
      · simp only [Act.put, List.setIfInBounds_toArray, List.set_cons_zero, List.set_cons_succ, i64_w, i32_w]
        rfl
      refine pure_ (i := 1) (N := some 30) (v := ?_) (a' := ?_) #[true, true, false, false, false, false, false, false, false] rfl rfl (any_of HT_.out (by kernel_rfl)) (fun _ _ _ h => h) (Or.inl ⟨by rfl, ?_⟩) ?_ ?_
      rotate_left
      · intro w'
        go_simp
        with_reducible rfl
      rotate_left
      · simp only [Act.put, List.setIfInBounds_toArray, List.set_cons_zero, List.set_cons_succ, i64_w, i32_w]
        rfl
      refine pure_ (i := 2) (N := some 31) (v := ?_) (a' := ?_) #[true, true, true, false, false, false, false, false, false] rfl rfl (any_of HT_.out (by kernel_rfl)) (fun _ _ _ h => h) (Or.inl ⟨by rfl, ?_⟩) ?_ ?_
      rotate_left
      · intro w'
        go_simp
        with_reducible rfl
      rotate_left
      · simp only [Act.put, List.setIfInBounds_toArray, List.set_cons_zero, List.set_cons_succ, i64_w, i32_w]
        rfl
      refine pure_ (i := 3) (N := some 32) (v := ?_) (a' := ?_) #[true, true, true, true, false, false, false, false, false] rfl rfl (any_of HT_.out (by kernel_rfl)) (fun _ _ _ h => h) (Or.inl ⟨by rfl, ?_⟩) ?_ ?_
      rotate_left
      · intro w'
        go_simp
        with_reducible rfl
      rotate_left
      · simp only [Act.put, List.setIfInBounds_toArray, List.set_cons_zero, List.set_cons_succ, i64_w, i32_w]
        rfl
      refine pure_ (i := 4) (N := some 33) (v := ?_) (a' := ?_) #[true, true, true, true, true, false, false, false, false] rfl rfl (any_of HT_.out (by kernel_rfl)) (fun _ _ _ h => h) (Or.inl ⟨by rfl, ?_⟩) ?_ ?_
      rotate_left
      · intro w'
        go_simp
        with_reducible rfl
      rotate_left
      · simp only [Act.put, List.setIfInBounds_toArray, List.set_cons_zero, List.set_cons_succ, i64_w, i32_w]
        rfl
      refine pure_ (i := 5) (N := some 34) (v := ?_) (a' := ?_) #[true, true, true, true, true, true, false, false, false] rfl rfl (any_of HT_.out (by kernel_rfl)) (fun _ _ _ h => h) (Or.inl ⟨by rfl, ?_⟩) ?_ ?_
      rotate_left
      · intro w'
        go_simp
        with_reducible rfl
      rotate_left
      · simp only [Act.put, List.setIfInBounds_toArray, List.set_cons_zero, List.set_cons_succ, i64_w, i32_w]
        rfl
      refine one_ (i := 6) (N := some 7) #[true, true, true, true, true, true, true, false, false] rfl rfl (one_of HT_.out (by kernel_rfl)) (by decide) (fun K hK => ?_)
      refine value_ (w1 := ?_) (v := ?_) (by rfl) rfl ?_ ?_
      rotate_left 2
      · go_simp
        constructor
        · rfl
        · rfl
      refine hK.out _ _ (trivial) (fun hHeld => ?_)
      clear hK K
      refine norm_ (a' := ?_) ?_ ?_
      rotate_left
      · show Act.put _ (some 7) _ = _
        simp only [Act.put, List.setIfInBounds_toArray, List.set_cons_zero, List.set_cons_succ, i64_w, i32_w]
        rfl
      refine last_ (i := 7) (N := none) #[true, true, true, true, true, true, true, true, false] rfl rfl (one_of HT_.out (by kernel_rfl)) (by decide) (fun K hK => ?_)
      refine skip_ (w1 := ?_) (by rfl) rfl ?_ ?_
      rotate_left
      · go_simp
        rfl
      refine hK.out _ _ ?_
      clear hK K
      refine pure_ (i := 8) (N := some 8) (v := ?_) (a' := ?_) #[true, true, true, true, true, true, true, true, true] rfl rfl (any_of HT_.out (by kernel_rfl)) (fun _ _ _ h => h) (Or.inl ⟨by rfl, ?_⟩) ?_ ?_
      rotate_left
      · intro w'
        go_simp
        with_reducible rfl
      rotate_left
      · simp only [Act.put, List.setIfInBounds_toArray, List.set_cons_zero, List.set_cons_succ, i64_w, i32_w]
        rfl
      refine done_ (done_of HT_.out (by kernel_rfl)) ?_
      obtain ⟨g7, hg7⟩ : ∃ g, g = w1.heap.size := ⟨_, rfl⟩
      obtain ⟨W6, hW6⟩ : ∃ W, W = (w1.alloc (.cells #[.slice A1 n1 c1] 22)).drew := ⟨_, rfl⟩
      have HB6 : Aside0 (Below w.heap.size w W6) := ⟨by rw [hW6]; exact below_drew1 (HB1.out.alloc HB1.out.size _)⟩
      have NH : Aside0 (W6.heap[g7]? = some (.cells #[.slice A1 n1 c1] 22 (0, 0))) := ⟨by rw [hW6, hg7]; exact heap_alloc_new w1 _⟩
      have NHC : Aside0 (Kd.C (Kd.int .u8) W6 A1 n1 (l1.take n1)) := ⟨Kd.C_below HC1.out HB6.out⟩
      rw [← hW6, ← hg7]
      clear hW6 hg7 HB1 hHeld HT_ HW_ w1
      obtain ⟨R0, hR0⟩ : ∃ R, R = l1.drop n1 := ⟨_, rfl⟩
      have hRl : l1.length - n1 = R0.length := by rw [hR0, List.length_drop]
      rw [hn8] at HC8 hnc8
      rw [← hR0] at HC8 HF2
      rw [hRl] at HC8 hnc8 ⊢
      have HRB : Aside0 (∀ x ∈ R0, isByte x = true) := ⟨fun x hx => HBY.out x (by rw [hR0] at hx; exact List.mem_of_mem_drop hx)⟩
      have hRm : R0.length ≤ 100000 := by omega
      clear hn8 kc1 kc8 hR0 hRl
      go_wp2_with fail
      rw [hdv]
      clear hdv
      go_loopw [10] (fun v10 W => ∃ k : Nat, l0.length ≤ k ∧ k ≤ 8 * n1 ∧ v10 = .int .i64 k ∧ W = W6 ∧ Aside0 (∀ j, l0.length ≤ j → j < k → bitAt l1 j = false)) (fun v10 _ => 8 * n1 - (intOf v10).toNat)
      case atStart => exact ⟨l0.length, Nat.le_refl _, hN2, rfl, rfl, ⟨fun j h1 h2 => absurd h2 (by omega)⟩⟩
      case round =>
        obtain ⟨k, hk0, hk, rfl, rfl, HZ⟩ := hrel
        by_cases hlt : k < 8 * n1
        · obtain ⟨bb, hbb⟩ : ∃ b, b = bitAt (l1.take n1) k := ⟨_, rfl⟩
          have HBB := Aside0.mk hbb
          have NHI : Aside0 (k / 8 < n1) := ⟨by omega⟩
          clear hbb
          cases bb with
          | true =>
            have HF3 := HF2.out
            rw [if_pos (by
              unfold loose
              rw [List.any_eq_true]
              refine ⟨k - l0.length, List.mem_range.mpr (by rw [← HN.out]; omega), ?_⟩
              rw [show l0.length + (k - l0.length) = k by omega, ← HBT.out k hlt]
              exact HBB.out.symm)] at HF3
            injection HF3 with hf1 hf2
            subst hf1 hf2
            go_wp2_with (first
              | (go_at_call 87; refine (null_any _ _ _ _ _ _ _ NH.out NHC.out HHB.out NHI.out (by omega)).mono ?_; rintro e wq ⟨rfl, rfl⟩; rw [← HBB.out]))
            go_ret2
            exact ⟨_, rfl, Kd.R_nil _ _ _ _ _, HB6.out⟩
          | false =>
            go_wp2_with (first
              | (go_at_call 87; refine (null_any _ _ _ _ _ _ _ NH.out NHC.out HHB.out NHI.out (by omega)).mono ?_; rintro e wq ⟨rfl, rfl⟩; rw [← HBB.out]))
            go_roundw
            case rel => exact ⟨k + 1, by omega, by omega, by go_num, (by first | rfl | trivial), ⟨fun j h1 h2 => by
              by_cases e : j = k
              · subst e; rw [← HBT.out j hlt]; exact HBB.out.symm
              · exact HZ.out j h1 (by omega)⟩⟩
            case measure => simp [intOf]; omega
        · have HF3 : Aside0 (finD [] (getVals (bitAt l1) l0 0 R0) = (r1, r2)) := ⟨by
            have := HF2.out
            rw [if_neg (by
              rw [Bool.not_eq_true]
              unfold loose
              rw [List.any_eq_false]
              intro j hj
              rw [List.mem_range, ← HN.out] at hj
              rw [HZ.out (l0.length + j) (by omega) (by omega)]
              decide)] at this
            exact this⟩
          clear HF2 HZ
          go_wp2_with (first
            | ((with_reducible refine gate_dst (N := 49) rfl ?_); refine Kd.R_make k39 w.heap.size 39 rfl (N := 49) rfl 23 _ _ rfl (l0.length : Int) rfl rfl Try.underlying23 (.agg #[(.int .u8 0), (.int .i64 0), (.string ⟨#[]⟩)]) 32 info39 rfl (by decide) (by omega) z39 (ok := fun _ => True) (okp := fun _ => True) (k39_mkM _ _ _ z39) (fun _ hk => hk) trivial (by omega) (by omega) HB6.out HB6.out.size ?_; intro v2 w2 ho hb hg hnew; have HO := Aside0.mk (Own.mk ho hb (Nat.le_trans HB6.out.size hg.size)); have NH2 : Aside0 (Blk w2 g7 (.cells #[.slice A1 n1 c1] 22 (0, 0)) v2) := ⟨⟨(hg.block g7 (blk_lt NH.out) (by simp)).trans NH.out, fun e => by obtain ⟨b, hb1, hb2⟩ := hnew; rw [hb1] at e; injection e with e; have := blk_lt NH.out; omega⟩⟩; clear ho hb hg hnew)
            | (go_at_call 84; refine (ways_any _).mono ?_; rintro e w3 ⟨rfl, rfl⟩; have HO3 := Aside0.mk (HO.out.alloc (.map waysMap 3)); have NH3 := Aside0.mk (NH2.out.alloc (.map waysMap 3)); have BM := Aside0.mk (show Blk (w2.alloc (.map waysMap 3)) w2.heap.size (.map waysMap 3) v2 from ⟨heap_alloc_new w2 _, fun hk => Nat.lt_irrefl _ (HO.out.lt hk)⟩)))
          obtain ⟨gm, hgm⟩ : ∃ g, g = w2.heap.size := ⟨_, rfl⟩
          rw [← hgm] at BM ⊢
          have HA8 := Aside0.mk (And.intro HC8.out HRB.out)
          clear hgm HO NH2 NH HB6 NHC hlt hk0 HC8 HRB
          go_loopw [8, 53] (fun v8 v53 W => ∃ (k : Nat) (R : List Int) (A8 : Option Addr) (c8 : Nat) (D : List S39), k ≤ l0.length ∧ v53 = .int .i64 k ∧ v8 = .slice A8 R.length c8 ∧ R.length ≤ c8 ∧ R.length ≤ 100000 ∧ D.length = k ∧ Aside0 (Kd.C (Kd.int .u8) w A8 R.length R ∧ ∀ x ∈ R, isByte x = true) ∧ Aside0 (finD D (getVals (bitAt l1) (l0.drop k) k R) = (r1, r2)) ∧ Aside0 (Own k39 39 w.heap.size w W v2 (D ++ List.replicate (l0.length - k) z39)) ∧ Aside0 (Blk W g7 (.cells #[.slice A1 n1 c1] 22 (0, 0)) v2) ∧ Aside0 (Blk W gm (.map waysMap 3) v2)) (fun _ v53 _ => l0.length - (intOf v53).toNat)
          case atStart => exact ⟨0, R0, A8, c8, [], Nat.zero_le _, rfl, rfl, hnc8, hRm, rfl, HA8, HF3, ⟨HO3.out.of_cast (by simp)⟩, NH3, BM⟩
          case round =>
            clear HO3 NH3 BM HA8 HF3 hnc8 hRm
            obtain ⟨k, R, A8, c8, D, hk, rfl, rfl, hRc, hRm, hD, HR, HF3, HO, NH, BM⟩ := hrel
            by_cases hlt : k < l0.length
            · obtain ⟨at0, e, hy0⟩ := C_rd HR0.out k hlt
              cases e
              have y0 := (HO.out.b.cell (World.block_lt_of_cell? w _ hy0)).trans hy0
              have hkt : (k : Int) < (l0.length : Int) := by omega
              clear hy0
              have hdk : l0.drop k = rd l0 k :: l0.drop (k + 1) := by
                rw [List.drop_eq_getElem_cons hlt]
                simp [rd, List.getD_eq_getElem?_getD, List.getElem?_eq_getElem hlt]
              have htk : rd l0 k = 1 ∨ rd l0 k = 2 ∨ rd l0 k = 3 := by
                have h1 := HKN.out
                unfold knownT at h1
                rw [List.all_eq_true] at h1
                have h2 := h1 (rd l0 k) (by rw [show rd l0 (k : Int) = l0[k] by simp [rd, List.getD_eq_getElem?_getD, List.getElem?_eq_getElem hlt]]; exact List.getElem_mem hlt)
                simp only [Bool.and_eq_true, decide_eq_true_eq] at h2
                omega
              obtain ⟨t, hT⟩ : ∃ t, t = rd l0 (k : Int) := ⟨_, rfl⟩
              rw [← hT] at y0 hdk htk
              clear hT
              have HF4 := HF3.out
              rw [hdk] at HF4
              clear HF3 hdk
              obtain ⟨bb, hbb⟩ : ∃ b, b = bitAt (l1.take n1) k := ⟨_, rfl⟩
              have HBB := Aside0.mk hbb
              have NHI : Aside0 (k / 8 < n1) := ⟨by omega⟩
              have HBL : Aside0 (bitAt l1 k = bb) := ⟨by rw [hbb]; exact (HBT.out k (by omega)).symm⟩
              have NHC := Aside0.mk (Kd.C_below HC1.out HO.out.b)
              have NHD := Aside0.mk NH.out.h
              clear hbb
              cases bb with
              | true =>
                rw [finD_null _ _ _ _ _ _ HBL.out] at HF4
                have HF5 := Aside0.mk HF4
                clear HF4 htk
                go_wp2_with (first
                  | (go_at_call 87; refine (null_any _ _ _ _ _ _ _ NHD.out NHC.out HHB.out NHI.out (by omega)).mono ?_; rintro e wq ⟨rfl, rfl⟩; rw [← HBB.out]))
                go_roundw
                case rel => exact ⟨k + 1, R, A8, c8, D ++ [z39], by omega, by go_num, rfl, hRc, hRm, by simp [hD], HR, HF5, ⟨HO.out.of_cast (by rw [show l0.length - k = (l0.length - (k + 1)) + 1 by omega, List.replicate_succ, List.append_assoc]; rfl)⟩, NH, BM⟩
                case measure => simp [intOf]; omega
              | false =>
                obtain ⟨x, hx⟩ : ∃ x, x = (getV t R).1 := ⟨_, rfl⟩
                obtain ⟨jn, hjn⟩ : ∃ x, x = (getV t R).2.1 := ⟨_, rfl⟩
                obtain ⟨er, her⟩ : ∃ x, x = (getV t R).2.2 := ⟨_, rfl⟩
                have hge : getV t R = (x, jn, er) := by rw [hx, hjn, her]
                have hj := getV_range t R HR.out.2
                rw [← hjn] at hj
                obtain ⟨hj0, hj1⟩ := hj
                have HRW := Aside0.mk (Kd.C_below HR.out.1 HO.out.b)
                have HGR := Aside0.mk (vget_range R HR.out.2)
                have HGF := Aside0.mk (get_f R (by omega) HR.out.2)
                have HFE : Aside0 (er ≠ 0 → r1 = [] ∧ r2 = er) := ⟨fun he => by
                  rw [finD_err _ _ _ _ _ _ HBL.out (by rw [hge]; exact he), hge] at HF4
                  injection HF4 with h1 h2
                  exact ⟨h1.symm, h2.symm⟩⟩
                have HFV : Aside0 (er = 0 → finD (D ++ [x]) (getVals (bitAt l1) (l0.drop (k + 1)) (k + 1) (R.drop jn.toNat)) = (r1, r2)) := ⟨fun he => by
                  rw [finD_val _ _ _ _ _ _ HBL.out (by rw [hge]; exact he), hge] at HF4
                  exact HF4⟩
                have HGE := Aside0.mk hge
                clear HF4 hx hjn her hge
                by_cases h1 : t = 1
                · have HT := Aside0.mk h1
                  have ML := (map_look (P := Try.prog) wr Try.underlying100 Try.underlying5 BM.out.h t (i := 0) (v := .agg #[.func (.func 121) #[] #[], .func (.func 122) #[] #[]]) (by rw [h1]; rfl)).2
                  have hfd : ∀ (f g : Value) (W : World), (Instr.field 106 (.agg #[f, g]) 1).run Try.prog W = .ok g W := field106g
                  have MG : Aside0 (Calls Try.prog 122 #[.slice A8 R.length c8] wr (GetPost wr (x, jn, er))) := ⟨by
                    rw [← HGE.out, HT.out]
                    exact way_getBool A8 R.length c8 R wr HRW.out hRc HR.out.2⟩
                  clear htk h1
                  by_cases he : er = 0
                  · have HFV2 := Aside0.mk (HFV.out he)
                    have HE0 := Aside0.mk he
                    clear HFV HFE
                    rw [he] at MG
                    clear he
                    go_wp2_with (first
                      | (go_at_call 87; refine (null_any _ _ _ _ _ _ _ NHD.out NHC.out HHB.out NHI.out (by omega)).mono ?_; rintro e wq ⟨rfl, rfl⟩; rw [← HBB.out])
                      | (go_at_call 122; refine MG.out.mono ?_; rintro e w5 ⟨rfl, hb5⟩; have HB5 := Aside0.mk hb5; clear hb5))
                    have HO5 := Aside0.mk ((HO.out.step HB5.out).alloc (.cells #[.int .u8 x.f0, .int .i64 x.f1, .string x.f2] 39))
                    have BX := Aside0.mk (Box.made (HO.out.step HB5.out) #[.int .u8 x.f0, .int .i64 x.f1, .string x.f2] 39)
                    have NH5 := Aside0.mk ((NH.out.step HB5.out).alloc (.cells #[.int .u8 x.f0, .int .i64 x.f1, .string x.f2] 39))
                    have BM5 := Aside0.mk ((BM.out.step HB5.out).alloc (.cells #[.int .u8 x.f0, .int .i64 x.f1, .string x.f2] 39))
                    obtain ⟨gx, hgx⟩ : ∃ g, g = w5.heap.size := ⟨_, rfl⟩
                    obtain ⟨WX, hWX⟩ : ∃ W, W = (w5.alloc (.cells #[.int .u8 x.f0, .int .i64 x.f1, .string x.f2] 39)) := ⟨_, rfl⟩
                    rw [← hWX] at HO5 BX NH5 BM5 ⊢
                    rw [← hgx] at BX ⊢
                    clear hgx hWX HB5 MG
                    obtain ⟨xs, hxs⟩ : ∃ xs, xs = D ++ List.replicate (l0.length - k) z39 := ⟨_, rfl⟩
                    rw [← hxs] at HO5
                    have hxl : xs.length = l0.length := by rw [hxs]; simp; omega
                    have HXS := Aside0.mk hxs
                    clear hxs
                    obtain ⟨g11, c11, e11, gb11, gl11, cells11, hc11⟩ := Kd.R_form HO5.out.r (by omega)
                    subst e11
                    obtain ⟨ad11, e12, hx0, hx1, hx2⟩ := at_T39 (Kd.R_reads' HO5.out.r).2.2 (k : Int) (by omega) (by omega)
                    cases e12
                    rw [Int.toNat_natCast] at hx0 hx1 hx2
                    simp only [add_plain] at hx0 hx1 hx2
                    have hz0 := blk_frozen hc11 (k * 3)
                    have hz1 := blk_frozen hc11 (k * 3 + 1)
                    have hz2 := blk_frozen hc11 (k * 3 + 2)
                    have hb0 := BX.out.cell 0 rfl
                    have hb1 := BX.out.cell 1 rfl
                    have hb2 := BX.out.cell 2 rfl
                    have hS22 : (WX.drew.cell? ⟨gx, 0, none⟩ = some (.int .u8 x.f0) ∧ WX.drew.cell? ⟨gx, 1, none⟩ = some (.int .i64 x.f1) ∧ WX.drew.cell? ⟨gx, 2, none⟩ = some (.string x.f2)) := ⟨hb0, hb1, hb2⟩
                    obtain ⟨A9, n9, c9, k9, hn9, hnc9, KC9⟩ := cut_from A8 R.length c8 R jn rfl hj0 hj1 hRc
                    have hkx : (k : Int) < (xs.length : Int) := by omega
                    have hkx2 : k < xs.length := by omega
                    have HC9 := Aside0.mk (KC9 w HR.out.1)
                    clear KC9 gb11 gl11 hc11
                    refine start_ (n := 9) (S := fun W' => W'.cell? ⟨gx, 0, none⟩ = some (.int .u8 x.f0) ∧ W'.cell? ⟨gx, 1, none⟩ = some (.int .i64 x.f1) ∧ W'.cell? ⟨gx, 2, none⟩ = some (.string x.f2)) (ds := [7]) #[false, false, false, false, false, false, false, false, false] (by kernel_rfl) rfl rfl (hS22) (fun hHeld => ?_)
                    refine with_tabW GP49.tab22 GP49.bits22 (fun HT_ HW_ => ?_)
                    refine pure_ (i := 0) (N := some 74) (v := ?_) (a' := ?_) #[true, false, false, false, false, false, false, false, false] rfl rfl (any_of HT_.out (by kernel_rfl)) (fun _ _ _ h => h) (Or.inl ⟨by rfl, ?_⟩) ?_ ?_
                    rotate_left
                    · intro w'
                      go_simp
                      with_reducible rfl
                    rotate_left
                    · simp only [Act.put, List.setIfInBounds_toArray, List.set_cons_zero, List.set_cons_succ, i64_w, i32_w]
                      rfl
                    refine pure_ (i := 1) (N := some 75) (v := ?_) (a' := ?_) #[true, true, false, false, false, false, false, false, false] rfl rfl (any_of HT_.out (by kernel_rfl)) (fun _ _ _ h => h) (Or.inl ⟨by rfl, ?_⟩) ?_ ?_
                    rotate_left
                    · intro w'
                      go_simp
                      with_reducible rfl
                    rotate_left
                    · simp only [Act.put, List.setIfInBounds_toArray, List.set_cons_zero, List.set_cons_succ, i64_w, i32_w]
                      rfl
                    refine take_ (i := 2) (N := some 76) (v := ?_) (a' := ?_) #[true, true, true, false, false, false, false, false, false] rfl rfl (take_ofW HT_.out HW_.out (by kernel_rfl)) (fun _ _ _ h => h) (Or.inl ⟨by rfl, ?_⟩) hHeld ?_ ?_
                    rotate_left
                    · intro w' s0
                      (try dsimp only at s0)
                      (try go_split_ands)
                      go_simp
                      with_reducible rfl
                    rotate_left
                    · simp only [Act.put, List.setIfInBounds_toArray, List.set_cons_zero, List.set_cons_succ, i64_w, i32_w]
                      rfl
                    refine pure_ (i := 3) (N := some 77) (v := ?_) (a' := ?_) #[true, true, true, true, false, false, false, false, false] rfl rfl (any_of HT_.out (by kernel_rfl)) (fun _ _ _ h => h) (Or.inl ⟨by rfl, ?_⟩) ?_ ?_
                    rotate_left
                    · intro w'
                      go_simp
                      with_reducible rfl
                    rotate_left
                    · simp only [Act.put, List.setIfInBounds_toArray, List.set_cons_zero, List.set_cons_succ, i64_w, i32_w]
                      rfl
                    refine pure_ (i := 4) (N := some 78) (v := ?_) (a' := ?_) #[true, true, true, true, true, false, false, false, false] rfl rfl (any_of HT_.out (by kernel_rfl)) (fun _ _ _ h => h) (Or.inl ⟨by rfl, ?_⟩) ?_ ?_
                    rotate_left
                    · intro w'
                      go_simp
                      with_reducible rfl
                    rotate_left
                    · simp only [Act.put, List.setIfInBounds_toArray, List.set_cons_zero, List.set_cons_succ, i64_w, i32_w]
                      rfl
                    refine pure_ (i := 5) (N := some 79) (v := ?_) (a' := ?_) #[true, true, true, true, true, true, false, false, false] rfl rfl (any_of HT_.out (by kernel_rfl)) (fun _ _ _ h => h) (Or.inl ⟨by rfl, ?_⟩) ?_ ?_
                    rotate_left
                    · intro w'
                      go_simp
                      with_reducible rfl
                    rotate_left
                    · simp only [Act.put, List.setIfInBounds_toArray, List.set_cons_zero, List.set_cons_succ, i64_w, i32_w]
                      rfl
                    refine pure_ (i := 6) (N := some 80) (v := ?_) (a' := ?_) #[true, true, true, true, true, true, true, false, false] rfl rfl (any_of HT_.out (by kernel_rfl)) (fun _ _ _ h => h) (Or.inl ⟨by rfl, ?_⟩) ?_ ?_
                    rotate_left
                    · intro w'
                      go_simp
                      with_reducible rfl
                    rotate_left
                    · simp only [Act.put, List.setIfInBounds_toArray, List.set_cons_zero, List.set_cons_succ, i64_w, i32_w]
                      rfl
                    refine last_ (i := 7) (N := none) #[true, true, true, true, true, true, true, true, false] rfl rfl (one_of HT_.out (by kernel_rfl)) (by decide) (fun K hK => ?_)
                    refine skip_ (w1 := ?_) (by rfl) rfl ?_ ?_
                    rotate_left
                    · go_simp
                      rfl
                    refine hK.out _ _ ?_
                    clear hK K
                    refine pure_ (i := 8) (N := some 8) (v := ?_) (a' := ?_) #[true, true, true, true, true, true, true, true, true] rfl rfl (any_of HT_.out (by kernel_rfl)) (fun _ _ _ h => h) (Or.inl ⟨by rfl, ?_⟩) ?_ ?_
                    rotate_left
                    · intro w'
                      go_simp
                      with_reducible rfl
                    rotate_left
                    · simp only [Act.put, List.setIfInBounds_toArray, List.set_cons_zero, List.set_cons_succ, i64_w, i32_w]
                      rfl
                    refine done_ (done_of HT_.out (by kernel_rfl)) ?_
                    go_wp2_with fail
                    have HO7 := Aside0.mk ((Own.putV HO5.out k hkx2 x).drew)
                    have NH7 := Aside0.mk ((((NH5.out.putC (k * 3) (.int .u8 x.f0)).putC (k * 3 + 1) (.int .i64 x.f1)).putC (k * 3 + 2) (.string x.f2)).drewN 1)
                    have BM7 := Aside0.mk ((((BM5.out.putC (k * 3) (.int .u8 x.f0)).putC (k * 3 + 1) (.int .i64 x.f1)).putC (k * 3 + 2) (.string x.f2)).drewN 1)
                    go_roundw
                    case rel => exact ⟨k + 1, R.drop jn.toNat, A9, c9, D ++ [x], by omega, by go_num, by rw [List.length_drop], by rw [List.length_drop]; omega, by rw [List.length_drop]; omega, by simp [hD], ⟨by rw [List.length_drop, ← hn9]; exact HC9.out, fun y hy => HR.out.2 y (List.mem_of_mem_drop hy)⟩, HFV2, ⟨HO7.out.of_cast (by rw [HXS.out, show l0.length - k = (l0.length - (k + 1)) + 1 by omega, ← hD]; exact set_next D _ x)⟩, NH7, BM7⟩
                    case measure => simp [intOf]; omega
                  · have q0 : (er == 0) = false := beq_eq_false_iff_ne.mpr he
                    have q1 : (er != 0) = true := by simp [bne, q0]
                    obtain ⟨hf1, hf2⟩ := HFE.out he
                    subst hf1 hf2
                    clear he HFE HFV
                    go_wp2_with (first
                      | (go_at_call 87; refine (null_any _ _ _ _ _ _ _ NHD.out NHC.out HHB.out NHI.out (by omega)).mono ?_; rintro e wq ⟨rfl, rfl⟩; rw [← HBB.out])
                      | (go_at_call 122; refine MG.out.mono ?_; rintro e w5 ⟨rfl, hb5⟩; have HB5 := Aside0.mk hb5; clear hb5))
                    go_ret2
                    exact ⟨_, rfl, Kd.R_nil _ _ _ _ _, (below_then HO.out.b HO.out.s HB5.out).alloc (Nat.le_trans HO.out.s HB5.out.size) _⟩
                · by_cases h2 : t = 2
                  · have HT := Aside0.mk h2
                    have ML := (map_look (P := Try.prog) wr Try.underlying100 Try.underlying5 BM.out.h t (i := 1) (v := .agg #[.func (.func 123) #[] #[], .func (.func 125) #[] #[]]) (by rw [h2]; rfl)).2
                    have hfd : ∀ (f g : Value) (W : World), (Instr.field 106 (.agg #[f, g]) 1).run Try.prog W = .ok g W := field106g
                    have MG : Aside0 (Calls Try.prog 125 #[.slice A8 R.length c8] wr (GetPost wr (x, jn, er))) := ⟨by
                      rw [← HGE.out, HT.out]
                      exact way_getInt A8 c8 R wr HRW.out hRc 21 _ _ _ (zag (vget R).1) HGF.out (zag_f _ HGR.out.1 HGR.out.2.1)⟩
                    clear htk h1 h2
                    by_cases he : er = 0
                    · have HFV2 := Aside0.mk (HFV.out he)
                      have HE0 := Aside0.mk he
                      clear HFV HFE
                      rw [he] at MG
                      clear he
                      go_wp2_with (first
                        | (go_at_call 87; refine (null_any _ _ _ _ _ _ _ NHD.out NHC.out HHB.out NHI.out (by omega)).mono ?_; rintro e wq ⟨rfl, rfl⟩; rw [← HBB.out])
                        | (go_at_call 125; refine MG.out.mono ?_; rintro e w5 ⟨rfl, hb5⟩; have HB5 := Aside0.mk hb5; clear hb5))
                      have HO5 := Aside0.mk ((HO.out.step HB5.out).alloc (.cells #[.int .u8 x.f0, .int .i64 x.f1, .string x.f2] 39))
                      have BX := Aside0.mk (Box.made (HO.out.step HB5.out) #[.int .u8 x.f0, .int .i64 x.f1, .string x.f2] 39)
                      have NH5 := Aside0.mk ((NH.out.step HB5.out).alloc (.cells #[.int .u8 x.f0, .int .i64 x.f1, .string x.f2] 39))
                      have BM5 := Aside0.mk ((BM.out.step HB5.out).alloc (.cells #[.int .u8 x.f0, .int .i64 x.f1, .string x.f2] 39))
                      obtain ⟨gx, hgx⟩ : ∃ g, g = w5.heap.size := ⟨_, rfl⟩
                      obtain ⟨WX, hWX⟩ : ∃ W, W = (w5.alloc (.cells #[.int .u8 x.f0, .int .i64 x.f1, .string x.f2] 39)) := ⟨_, rfl⟩
                      rw [← hWX] at HO5 BX NH5 BM5 ⊢
                      rw [← hgx] at BX ⊢
                      clear hgx hWX HB5 MG
                      obtain ⟨xs, hxs⟩ : ∃ xs, xs = D ++ List.replicate (l0.length - k) z39 := ⟨_, rfl⟩
                      rw [← hxs] at HO5
                      have hxl : xs.length = l0.length := by rw [hxs]; simp; omega
                      have HXS := Aside0.mk hxs
                      clear hxs
                      obtain ⟨g11, c11, e11, gb11, gl11, cells11, hc11⟩ := Kd.R_form HO5.out.r (by omega)
                      subst e11
                      obtain ⟨ad11, e12, hx0, hx1, hx2⟩ := at_T39 (Kd.R_reads' HO5.out.r).2.2 (k : Int) (by omega) (by omega)
                      cases e12
                      rw [Int.toNat_natCast] at hx0 hx1 hx2
                      simp only [add_plain] at hx0 hx1 hx2
                      have hz0 := blk_frozen hc11 (k * 3)
                      have hz1 := blk_frozen hc11 (k * 3 + 1)
                      have hz2 := blk_frozen hc11 (k * 3 + 2)
                      have hb0 := BX.out.cell 0 rfl
                      have hb1 := BX.out.cell 1 rfl
                      have hb2 := BX.out.cell 2 rfl
                      have hS22 : (WX.drew.cell? ⟨gx, 0, none⟩ = some (.int .u8 x.f0) ∧ WX.drew.cell? ⟨gx, 1, none⟩ = some (.int .i64 x.f1) ∧ WX.drew.cell? ⟨gx, 2, none⟩ = some (.string x.f2)) := ⟨hb0, hb1, hb2⟩
                      obtain ⟨A9, n9, c9, k9, hn9, hnc9, KC9⟩ := cut_from A8 R.length c8 R jn rfl hj0 hj1 hRc
                      have hkx : (k : Int) < (xs.length : Int) := by omega
                      have hkx2 : k < xs.length := by omega
                      have HC9 := Aside0.mk (KC9 w HR.out.1)
                      clear KC9 gb11 gl11 hc11
                      refine start_ (n := 9) (S := fun W' => W'.cell? ⟨gx, 0, none⟩ = some (.int .u8 x.f0) ∧ W'.cell? ⟨gx, 1, none⟩ = some (.int .i64 x.f1) ∧ W'.cell? ⟨gx, 2, none⟩ = some (.string x.f2)) (ds := [7]) #[false, false, false, false, false, false, false, false, false] (by kernel_rfl) rfl rfl (hS22) (fun hHeld => ?_)
                      refine with_tabW GP49.tab22 GP49.bits22 (fun HT_ HW_ => ?_)
                      refine pure_ (i := 0) (N := some 74) (v := ?_) (a' := ?_) #[true, false, false, false, false, false, false, false, false] rfl rfl (any_of HT_.out (by kernel_rfl)) (fun _ _ _ h => h) (Or.inl ⟨by rfl, ?_⟩) ?_ ?_
                      rotate_left
                      · intro w'
                        go_simp
                        with_reducible rfl
                      rotate_left
                      · simp only [Act.put, List.setIfInBounds_toArray, List.set_cons_zero, List.set_cons_succ, i64_w, i32_w]
                        rfl
                      refine pure_ (i := 1) (N := some 75) (v := ?_) (a' := ?_) #[true, true, false, false, false, false, false, false, false] rfl rfl (any_of HT_.out (by kernel_rfl)) (fun _ _ _ h => h) (Or.inl ⟨by rfl, ?_⟩) ?_ ?_
                      rotate_left
                      · intro w'
                        go_simp
                        with_reducible rfl
                      rotate_left
                      · simp only [Act.put, List.setIfInBounds_toArray, List.set_cons_zero, List.set_cons_succ, i64_w, i32_w]
                        rfl
                      refine take_ (i := 2) (N := some 76) (v := ?_) (a' := ?_) #[true, true, true, false, false, false, false, false, false] rfl rfl (take_ofW HT_.out HW_.out (by kernel_rfl)) (fun _ _ _ h => h) (Or.inl ⟨by rfl, ?_⟩) hHeld ?_ ?_
                      rotate_left
                      · intro w' s0
                        (try dsimp only at s0)
                        (try go_split_ands)
                        go_simp
                        with_reducible rfl
                      rotate_left
                      · simp only [Act.put, List.setIfInBounds_toArray, List.set_cons_zero, List.set_cons_succ, i64_w, i32_w]
                        rfl
                      refine pure_ (i := 3) (N := some 77) (v := ?_) (a' := ?_) #[true, true, true, true, false, false, false, false, false] rfl rfl (any_of HT_.out (by kernel_rfl)) (fun _ _ _ h => h) (Or.inl ⟨by rfl, ?_⟩) ?_ ?_
                      rotate_left
                      · intro w'
                        go_simp
                        with_reducible rfl
                      rotate_left
                      · simp only [Act.put, List.setIfInBounds_toArray, List.set_cons_zero, List.set_cons_succ, i64_w, i32_w]
                        rfl
                      refine pure_ (i := 4) (N := some 78) (v := ?_) (a' := ?_) #[true, true, true, true, true, false, false, false, false] rfl rfl (any_of HT_.out (by kernel_rfl)) (fun _ _ _ h => h) (Or.inl ⟨by rfl, ?_⟩) ?_ ?_
                      rotate_left
                      · intro w'
                        go_simp
                        with_reducible rfl
                      rotate_left
                      · simp only [Act.put, List.setIfInBounds_toArray, List.set_cons_zero, List.set_cons_succ, i64_w, i32_w]
                        rfl
                      refine pure_ (i := 5) (N := some 79) (v := ?_) (a' := ?_) #[true, true, true, true, true, true, false, false, false] rfl rfl (any_of HT_.out (by kernel_rfl)) (fun _ _ _ h => h) (Or.inl ⟨by rfl, ?_⟩) ?_ ?_
                      rotate_left
                      · intro w'
                        go_simp
                        with_reducible rfl
                      rotate_left
                      · simp only [Act.put, List.setIfInBounds_toArray, List.set_cons_zero, List.set_cons_succ, i64_w, i32_w]
                        rfl
                      refine pure_ (i := 6) (N := some 80) (v := ?_) (a' := ?_) #[true, true, true, true, true, true, true, false, false] rfl rfl (any_of HT_.out (by kernel_rfl)) (fun _ _ _ h => h) (Or.inl ⟨by rfl, ?_⟩) ?_ ?_
                      rotate_left
                      · intro w'
                        go_simp
                        with_reducible rfl
                      rotate_left
                      · simp only [Act.put, List.setIfInBounds_toArray, List.set_cons_zero, List.set_cons_succ, i64_w, i32_w]
                        rfl
                      refine last_ (i := 7) (N := none) #[true, true, true, true, true, true, true, true, false] rfl rfl (one_of HT_.out (by kernel_rfl)) (by decide) (fun K hK => ?_)
                      refine skip_ (w1 := ?_) (by rfl) rfl ?_ ?_
                      rotate_left
                      · go_simp
                        rfl
                      refine hK.out _ _ ?_
                      clear hK K
                      refine pure_ (i := 8) (N := some 8) (v := ?_) (a' := ?_) #[true, true, true, true, true, true, true, true, true] rfl rfl (any_of HT_.out (by kernel_rfl)) (fun _ _ _ h => h) (Or.inl ⟨by rfl, ?_⟩) ?_ ?_
                      rotate_left
                      · intro w'
                        go_simp
                        with_reducible rfl
                      rotate_left
                      · simp only [Act.put, List.setIfInBounds_toArray, List.set_cons_zero, List.set_cons_succ, i64_w, i32_w]
                        rfl
                      refine done_ (done_of HT_.out (by kernel_rfl)) ?_
                      go_wp2_with fail
                      have HO7 := Aside0.mk ((Own.putV HO5.out k hkx2 x).drew)
                      have NH7 := Aside0.mk ((((NH5.out.putC (k * 3) (.int .u8 x.f0)).putC (k * 3 + 1) (.int .i64 x.f1)).putC (k * 3 + 2) (.string x.f2)).drewN 1)
                      have BM7 := Aside0.mk ((((BM5.out.putC (k * 3) (.int .u8 x.f0)).putC (k * 3 + 1) (.int .i64 x.f1)).putC (k * 3 + 2) (.string x.f2)).drewN 1)
                      go_roundw
                      case rel => exact ⟨k + 1, R.drop jn.toNat, A9, c9, D ++ [x], by omega, by go_num, by rw [List.length_drop], by rw [List.length_drop]; omega, by rw [List.length_drop]; omega, by simp [hD], ⟨by rw [List.length_drop, ← hn9]; exact HC9.out, fun y hy => HR.out.2 y (List.mem_of_mem_drop hy)⟩, HFV2, ⟨HO7.out.of_cast (by rw [HXS.out, show l0.length - k = (l0.length - (k + 1)) + 1 by omega, ← hD]; exact set_next D _ x)⟩, NH7, BM7⟩
                      case measure => simp [intOf]; omega
                    · have q0 : (er == 0) = false := beq_eq_false_iff_ne.mpr he
                      have q1 : (er != 0) = true := by simp [bne, q0]
                      obtain ⟨hf1, hf2⟩ := HFE.out he
                      subst hf1 hf2
                      clear he HFE HFV
                      go_wp2_with (first
                        | (go_at_call 87; refine (null_any _ _ _ _ _ _ _ NHD.out NHC.out HHB.out NHI.out (by omega)).mono ?_; rintro e wq ⟨rfl, rfl⟩; rw [← HBB.out])
                        | (go_at_call 125; refine MG.out.mono ?_; rintro e w5 ⟨rfl, hb5⟩; have HB5 := Aside0.mk hb5; clear hb5))
                      go_ret2
                      exact ⟨_, rfl, Kd.R_nil _ _ _ _ _, (below_then HO.out.b HO.out.s HB5.out).alloc (Nat.le_trans HO.out.s HB5.out.size) _⟩
                  · have h3 : t = 3 := by omega
                    have HT := Aside0.mk h3
                    have ML := (map_look (P := Try.prog) wr Try.underlying100 Try.underlying5 BM.out.h t (i := 2) (v := .agg #[.func (.func 128) #[] #[], .func (.func 129) #[] #[]]) (by rw [h3]; rfl)).2
                    have hfd : ∀ (f g : Value) (W : World), (Instr.field 106 (.agg #[f, g]) 1).run Try.prog W = .ok g W := field106g
                    have MG : Aside0 (Calls Try.prog 129 #[.slice A8 R.length c8] wr (GetPost wr (x, jn, er))) := ⟨by
                      rw [← HGE.out, HT.out]
                      exact way_getText A8 c8 R wr HRW.out hRc (by omega) 21 _ _ _ HGF.out HGR.out.1 HGR.out.2.1 HGR.out.2.2.1 HGR.out.2.2.2⟩
                    clear htk h1 h2 h3
                    by_cases he : er = 0
                    · have HFV2 := Aside0.mk (HFV.out he)
                      have HE0 := Aside0.mk he
                      clear HFV HFE
                      rw [he] at MG
                      clear he
                      go_wp2_with (first
                        | (go_at_call 87; refine (null_any _ _ _ _ _ _ _ NHD.out NHC.out HHB.out NHI.out (by omega)).mono ?_; rintro e wq ⟨rfl, rfl⟩; rw [← HBB.out])
                        | (go_at_call 129; refine MG.out.mono ?_; rintro e w5 ⟨rfl, hb5⟩; have HB5 := Aside0.mk hb5; clear hb5))
                      have HO5 := Aside0.mk ((HO.out.step HB5.out).alloc (.cells #[.int .u8 x.f0, .int .i64 x.f1, .string x.f2] 39))
                      have BX := Aside0.mk (Box.made (HO.out.step HB5.out) #[.int .u8 x.f0, .int .i64 x.f1, .string x.f2] 39)
                      have NH5 := Aside0.mk ((NH.out.step HB5.out).alloc (.cells #[.int .u8 x.f0, .int .i64 x.f1, .string x.f2] 39))
                      have BM5 := Aside0.mk ((BM.out.step HB5.out).alloc (.cells #[.int .u8 x.f0, .int .i64 x.f1, .string x.f2] 39))
                      obtain ⟨gx, hgx⟩ : ∃ g, g = w5.heap.size := ⟨_, rfl⟩
                      obtain ⟨WX, hWX⟩ : ∃ W, W = (w5.alloc (.cells #[.int .u8 x.f0, .int .i64 x.f1, .string x.f2] 39)) := ⟨_, rfl⟩
                      rw [← hWX] at HO5 BX NH5 BM5 ⊢
                      rw [← hgx] at BX ⊢
                      clear hgx hWX HB5 MG
                      obtain ⟨xs, hxs⟩ : ∃ xs, xs = D ++ List.replicate (l0.length - k) z39 := ⟨_, rfl⟩
                      rw [← hxs] at HO5
                      have hxl : xs.length = l0.length := by rw [hxs]; simp; omega
                      have HXS := Aside0.mk hxs
                      clear hxs
                      obtain ⟨g11, c11, e11, gb11, gl11, cells11, hc11⟩ := Kd.R_form HO5.out.r (by omega)
                      subst e11
                      obtain ⟨ad11, e12, hx0, hx1, hx2⟩ := at_T39 (Kd.R_reads' HO5.out.r).2.2 (k : Int) (by omega) (by omega)
                      cases e12
                      rw [Int.toNat_natCast] at hx0 hx1 hx2
                      simp only [add_plain] at hx0 hx1 hx2
                      have hz0 := blk_frozen hc11 (k * 3)
                      have hz1 := blk_frozen hc11 (k * 3 + 1)
                      have hz2 := blk_frozen hc11 (k * 3 + 2)
                      have hb0 := BX.out.cell 0 rfl
                      have hb1 := BX.out.cell 1 rfl
                      have hb2 := BX.out.cell 2 rfl
                      have hS22 : (WX.drew.cell? ⟨gx, 0, none⟩ = some (.int .u8 x.f0) ∧ WX.drew.cell? ⟨gx, 1, none⟩ = some (.int .i64 x.f1) ∧ WX.drew.cell? ⟨gx, 2, none⟩ = some (.string x.f2)) := ⟨hb0, hb1, hb2⟩
                      obtain ⟨A9, n9, c9, k9, hn9, hnc9, KC9⟩ := cut_from A8 R.length c8 R jn rfl hj0 hj1 hRc
                      have hkx : (k : Int) < (xs.length : Int) := by omega
                      have hkx2 : k < xs.length := by omega
                      have HC9 := Aside0.mk (KC9 w HR.out.1)
                      clear KC9 gb11 gl11 hc11
                      refine start_ (n := 9) (S := fun W' => W'.cell? ⟨gx, 0, none⟩ = some (.int .u8 x.f0) ∧ W'.cell? ⟨gx, 1, none⟩ = some (.int .i64 x.f1) ∧ W'.cell? ⟨gx, 2, none⟩ = some (.string x.f2)) (ds := [7]) #[false, false, false, false, false, false, false, false, false] (by kernel_rfl) rfl rfl (hS22) (fun hHeld => ?_)
                      refine with_tabW GP49.tab22 GP49.bits22 (fun HT_ HW_ => ?_)
                      refine pure_ (i := 0) (N := some 74) (v := ?_) (a' := ?_) #[true, false, false, false, false, false, false, false, false] rfl rfl (any_of HT_.out (by kernel_rfl)) (fun _ _ _ h => h) (Or.inl ⟨by rfl, ?_⟩) ?_ ?_
                      rotate_left
                      · intro w'
                        go_simp
                        with_reducible rfl
                      rotate_left
                      · simp only [Act.put, List.setIfInBounds_toArray, List.set_cons_zero, List.set_cons_succ, i64_w, i32_w]
                        rfl
                      refine pure_ (i := 1) (N := some 75) (v := ?_) (a' := ?_) #[true, true, false, false, false, false, false, false, false] rfl rfl (any_of HT_.out (by kernel_rfl)) (fun _ _ _ h => h) (Or.inl ⟨by rfl, ?_⟩) ?_ ?_
                      rotate_left
                      · intro w'
                        go_simp
                        with_reducible rfl
                      rotate_left
                      · simp only [Act.put, List.setIfInBounds_toArray, List.set_cons_zero, List.set_cons_succ, i64_w, i32_w]
                        rfl
                      refine take_ (i := 2) (N := some 76) (v := ?_) (a' := ?_) #[true, true, true, false, false, false, false, false, false] rfl rfl (take_ofW HT_.out HW_.out (by kernel_rfl)) (fun _ _ _ h => h) (Or.inl ⟨by rfl, ?_⟩) hHeld ?_ ?_
                      rotate_left
                      · intro w' s0
                        (try dsimp only at s0)
                        (try go_split_ands)
                        go_simp
                        with_reducible rfl
                      rotate_left
                      · simp only [Act.put, List.setIfInBounds_toArray, List.set_cons_zero, List.set_cons_succ, i64_w, i32_w]
                        rfl
                      refine pure_ (i := 3) (N := some 77) (v := ?_) (a' := ?_) #[true, true, true, true, false, false, false, false, false] rfl rfl (any_of HT_.out (by kernel_rfl)) (fun _ _ _ h => h) (Or.inl ⟨by rfl, ?_⟩) ?_ ?_
                      rotate_left
                      · intro w'
                        go_simp
                        with_reducible rfl
                      rotate_left
                      · simp only [Act.put, List.setIfInBounds_toArray, List.set_cons_zero, List.set_cons_succ, i64_w, i32_w]
                        rfl
                      refine pure_ (i := 4) (N := some 78) (v := ?_) (a' := ?_) #[true, true, true, true, true, false, false, false, false] rfl rfl (any_of HT_.out (by kernel_rfl)) (fun _ _ _ h => h) (Or.inl ⟨by rfl, ?_⟩) ?_ ?_
                      rotate_left
                      · intro w'
                        go_simp
                        with_reducible rfl
                      rotate_left
                      · simp only [Act.put, List.setIfInBounds_toArray, List.set_cons_zero, List.set_cons_succ, i64_w, i32_w]
                        rfl
                      refine pure_ (i := 5) (N := some 79) (v := ?_) (a' := ?_) #[true, true, true, true, true, true, false, false, false] rfl rfl (any_of HT_.out (by kernel_rfl)) (fun _ _ _ h => h) (Or.inl ⟨by rfl, ?_⟩) ?_ ?_
                      rotate_left
                      · intro w'
                        go_simp
                        with_reducible rfl
                      rotate_left
                      · simp only [Act.put, List.setIfInBounds_toArray, List.set_cons_zero, List.set_cons_succ, i64_w, i32_w]
                        rfl
                      refine pure_ (i := 6) (N := some 80) (v := ?_) (a' := ?_) #[true, true, true, true, true, true, true, false, false] rfl rfl (any_of HT_.out (by kernel_rfl)) (fun _ _ _ h => h) (Or.inl ⟨by rfl, ?_⟩) ?_ ?_
                      rotate_left
                      · intro w'
                        go_simp
                        with_reducible rfl
                      rotate_left
                      · simp only [Act.put, List.setIfInBounds_toArray, List.set_cons_zero, List.set_cons_succ, i64_w, i32_w]
                        rfl
                      refine last_ (i := 7) (N := none) #[true, true, true, true, true, true, true, true, false] rfl rfl (one_of HT_.out (by kernel_rfl)) (by decide) (fun K hK => ?_)
                      refine skip_ (w1 := ?_) (by rfl) rfl ?_ ?_
                      rotate_left
                      · go_simp
                        rfl
                      refine hK.out _ _ ?_
                      clear hK K
                      refine pure_ (i := 8) (N := some 8) (v := ?_) (a' := ?_) #[true, true, true, true, true, true, true, true, true] rfl rfl (any_of HT_.out (by kernel_rfl)) (fun _ _ _ h => h) (Or.inl ⟨by rfl, ?_⟩) ?_ ?_
                      rotate_left
                      · intro w'
                        go_simp
                        with_reducible rfl
                      rotate_left
                      · simp only [Act.put, List.setIfInBounds_toArray, List.set_cons_zero, List.set_cons_succ, i64_w, i32_w]
                        rfl
                      refine done_ (done_of HT_.out (by kernel_rfl)) ?_
                      go_wp2_with fail
                      have HO7 := Aside0.mk ((Own.putV HO5.out k hkx2 x).drew)
                      have NH7 := Aside0.mk ((((NH5.out.putC (k * 3) (.int .u8 x.f0)).putC (k * 3 + 1) (.int .i64 x.f1)).putC (k * 3 + 2) (.string x.f2)).drewN 1)
                      have BM7 := Aside0.mk ((((BM5.out.putC (k * 3) (.int .u8 x.f0)).putC (k * 3 + 1) (.int .i64 x.f1)).putC (k * 3 + 2) (.string x.f2)).drewN 1)
                      go_roundw
                      case rel => exact ⟨k + 1, R.drop jn.toNat, A9, c9, D ++ [x], by omega, by go_num, by rw [List.length_drop], by rw [List.length_drop]; omega, by rw [List.length_drop]; omega, by simp [hD], ⟨by rw [List.length_drop, ← hn9]; exact HC9.out, fun y hy => HR.out.2 y (List.mem_of_mem_drop hy)⟩, HFV2, ⟨HO7.out.of_cast (by rw [HXS.out, show l0.length - k = (l0.length - (k + 1)) + 1 by omega, ← hD]; exact set_next D _ x)⟩, NH7, BM7⟩
                      case measure => simp [intOf]; omega
                    · have q0 : (er == 0) = false := beq_eq_false_iff_ne.mpr he
                      have q1 : (er != 0) = true := by simp [bne, q0]
                      obtain ⟨hf1, hf2⟩ := HFE.out he
                      subst hf1 hf2
                      clear he HFE HFV
                      go_wp2_with (first
                        | (go_at_call 87; refine (null_any _ _ _ _ _ _ _ NHD.out NHC.out HHB.out NHI.out (by omega)).mono ?_; rintro e wq ⟨rfl, rfl⟩; rw [← HBB.out])
                        | (go_at_call 129; refine MG.out.mono ?_; rintro e w5 ⟨rfl, hb5⟩; have HB5 := Aside0.mk hb5; clear hb5))
                      go_ret2
                      exact ⟨_, rfl, Kd.R_nil _ _ _ _ _, (below_then HO.out.b HO.out.s HB5.out).alloc (Nat.le_trans HO.out.s HB5.out.size) _⟩
            · obtain rfl : k = l0.length := by omega
              have HF4 := HF3.out
              rw [List.drop_length] at HF4
              unfold getVals finD at HF4
              rw [if_neg (by simp)] at HF4
              by_cases hR : R.length > 0
              · rw [if_pos hR] at HF4
                injection HF4 with hf1 hf2
                subst hf1 hf2
                have hR2 : (0 : Int) < (R.length : Int) := by omega
                have hR3 : 0 < R.length := hR
                go_wp2_with fail
                go_ret2
                exact ⟨_, rfl, Kd.R_nil _ _ _ _ _, HO.out.b⟩
              · rw [if_neg hR] at HF4
                injection HF4 with hf1 hf2
                subst hf1 hf2
                have hR0 : R = [] := List.eq_nil_of_length_eq_zero (by omega)
                subst hR0
                go_wp2_with fail
                go_ret2
                exact ⟨_, rfl, (HO.out.of_cast (by simp)).r, HO.out.b⟩
  · rw [Bool.not_eq_true] at hkn
    have HF2 := HF.out
    unfold getRow at HF2
    rw [if_pos hkn] at HF2
    injection HF2 with hf1 hf2
    subst hf1 hf2
    rw [hkn] at HK
    clear hkn
    go_enter Try.func49, Try.ntmps49
    go_wp2_with (first
      | (go_at_call 83; refine (row_known.calls _ A0 c0 l0 false _ HR0.out hc0 HK.out).mono ?_; rintro e w1 ⟨rfl, hd1⟩; have HB1 := Aside0.mk hd1.below; clear hd1))
    go_ret2
    exact ⟨_, rfl, Kd.R_nil _ _ _ _ _, HB1.out⟩
end Go.Proofs.Ytlmcefhpnfoahaa.P
end

section
namespace Go.Proofs.Ytlmcefhpnfoahaa.P
open Go.RowKit Go.Proofs.YtlmcefhpnfoahaaW.PrintWords Go.Proofs.YtlmcefhpnfoahaaW.PrintLast Go.Proofs.YtlmcefhpnfoahaaW.PrintMore
set_option linter.unusedVariables false
set_option linter.unusedSimpArgs false

/-- A block that was laid cell by cell, read as a row. -/
theorem lit_row {α : Type} (d : Kd α) {W : World} {g : Nat} {inner : List Value} {t : TypeId} {fr : Nat × Nat} (hg : W.heap[g]? = some (.cells inner.toArray t fr)) (xs : List α) (hrep : Reps (d.K W) d.sz xs inner) (hm : xs.length ≤ 9223372036854775807) :
    Kd.C d W (some ⟨g, 0, none⟩) xs.length xs := by
  refine ⟨rfl, hm, fun _ => ⟨_, rfl, fun j p hj => ?_⟩⟩
  have hlt : j < xs.length := (List.getElem?_eq_some_iff.mp hj).1
  have h1 : j * d.sz + d.sz ≤ xs.length * d.sz := by rw [← Nat.succ_mul]; exact Nat.mul_le_mul_right _ hlt
  have h0 := hrep.1
  refine ⟨(inner.drop (j * d.sz)).take d.sz, by rw [List.length_take, List.length_drop]; omega, hrep.2 j p hj, fun i u hu => ?_⟩
  have hi : i < d.sz := by
    by_cases h : i < d.sz
    · exact h
    · rw [List.getElem?_eq_none (by rw [List.length_take]; omega)] at hu
      cases hu
  rw [List.getElem?_take_of_lt hi, List.getElem?_drop] at hu
  rw [add_plain]
  simp [World.cell?, hg, hu]
def cellsOf39 (l : List S39) : List Value := l.flatMap cells39
theorem reps_vals (W : World) (l : List S39) : Reps (k39.K W) k39.sz l (cellsOf39 l) := by
  show Reps _ 3 _ _
  induction l with
  | nil => exact Reps.none _ _
  | cons x t ih => exact Reps.c3 (k39_mk _ x) ih
theorem reps_bytes (W : World) (l : List Int) : Reps ((Kd.int .u8).K W) (Kd.int .u8).sz l (l.map (Value.int .u8)) := by
  show Reps _ 1 _ _
  induction l with
  | nil => exact Reps.none _ _
  | cons x t ih => exact Reps.one (by exact rfl) ih
/-- A literal row of values, of bytes, just laid. -/
theorem lit_vals (W : World) (l : List S39) (cs : Array Value) (h : cs = (cellsOf39 l).toArray) (hl : l.length ≤ 100) : Kd.C k39 (W.alloc (.cells cs 39)) (some ⟨W.heap.size, 0, none⟩) l.length l := by
  subst h
  exact lit_row k39 (heap_alloc_new W _) l (reps_vals _ l) (by omega)
theorem lit_bytes (W : World) (l : List Int) (cs : Array Value) (h : cs = (l.map (Value.int .u8)).toArray) (hl : l.length ≤ 100) : Kd.C (Kd.int .u8) (W.alloc (.cells cs 5)) (some ⟨W.heap.size, 0, none⟩) l.length l := by
  subst h
  exact lit_row (Kd.int .u8) (heap_alloc_new W _) l (reps_bytes _ l) (by omega)
theorem lit_bytes_fr (W : World) (l : List Int) (cs : Array Value) (fr : Nat × Nat) (h : cs = (l.map (Value.int .u8)).toArray) (hl : l.length ≤ 100) : Kd.C (Kd.int .u8) (W.alloc (.cells cs 5 fr)) (some ⟨W.heap.size, 0, none⟩) l.length l := by
  subst h
  exact lit_row (Kd.int .u8) (heap_alloc_new W _) l (reps_bytes _ l) (by omega)
/-- []byte("..") of a constant. -/
theorem conv_const (W : World) (C : Array Value) (n c : Nat) : (convert 22 22 (.slice (some ⟨W.heap.size, 0, none⟩) n c)).run Try.prog (W.alloc (.cells C 5)) = .ok (.slice (some ⟨W.heap.size, 0, none⟩) n c) (W.alloc (.cells C 5 (C.size, C.size + 1))) :=
  Lib.run_convert_bytes_const (P := Try.prog) W 22 5 C n c Try.underlying22 Try.underlying5
/-- []byte(s), read as a row. -/
theorem conv_bytes_row (W : World) (s : ByteArray) (hs : s.size ≤ 9223372036854775807) : Kd.C (Kd.int .u8) (Lib.bytesWorld W 5 s) (some ⟨W.heap.size, 0, none⟩) (bytesOf s).length (bytesOf s) := by
  rw [bytesOf_length]
  exact Kd.C_of_reads (bytes_reads W 5 s hs)
end Go.Proofs.Ytlmcefhpnfoahaa.P
end

section
namespace Go.Proofs.Ytlmcefhpnfoahaa.P
open Go.RowKit Go.Proofs.YtlmcefhpnfoahaaW.PrintWords Go.Proofs.YtlmcefhpnfoahaaW.PrintLast Go.Proofs.YtlmcefhpnfoahaaW.PrintMore
set_option linter.unusedVariables false
set_option linter.unusedSimpArgs false

def exV : List S39 := [⟨2, -1, ⟨#[]⟩⟩, ⟨3, 0, ⟨#[97, 98]⟩⟩, ⟨0, 0, ⟨#[]⟩⟩]
theorem exPut : row_Put.f [2, 3, 1] exV = some ([4, 1, 2, 97, 98], 0) := by decide +kernel
theorem exGet : row_Get.f [2, 3, 1] [4, 1, 2, 97, 98] = some (exV, 0) := by kernel_rfl
theorem exStr : strOfNums [4, 1, 2, 97, 98] = ⟨#[4, 1, 2, 97, 98]⟩ := rfl
def tidelinelaw04_puts.f : Option Bool := some true
set_option maxRecDepth 100000 in
set_option maxHeartbeats 1600000 in
theorem tidelinelaw04_puts.calls (r : Bool) (w : World) (h : tidelinelaw04_puts.f = some r) :
    Calls Try.prog 48 #[] w fun e w' => e = .returned (.bool r) ∧ Below w.heap.size w w' := by
  obtain rfl : true = r := Option.some.inj h
  clear h
  obtain ⟨W1, hW1⟩ : ∃ W, W = w.alloc (.cells #[.int .u8 2, .int .u8 3, .int .u8 1] 5) := ⟨_, rfl⟩
  have B1 : Aside0 (Below w.heap.size w W1) := ⟨by rw [hW1]; exact below_alloc (Below.refl _ _) _⟩
  have s1 : Aside0 (W1.heap.size = w.heap.size + 1) := ⟨by rw [hW1]; simp⟩
  have L1 : Aside0 (Kd.C (Kd.int .u8) W1 (some ⟨w.heap.size, 0, none⟩) 3 [2, 3, 1]) := ⟨by rw [hW1]; exact lit_bytes w [2, 3, 1] _ rfl (by decide)⟩
  have HW1 := Aside0.mk hW1
  obtain ⟨W2, hW2⟩ : ∃ W, W = W1.alloc (.cells #[.int .u8 2, .int .i64 (-1), .string ⟨#[]⟩, .int .u8 3, .int .i64 0, .string ⟨#[97, 98]⟩, .int .u8 0, .int .i64 0, .string ⟨#[]⟩] 39) := ⟨_, rfl⟩
  have B2 : Aside0 (Below w.heap.size w W2) := ⟨by rw [hW2]; exact B1.out.alloc B1.out.size _⟩
  have L2 : Aside0 (Kd.C k39 W2 (some ⟨w.heap.size + 1, 0, none⟩) 3 exV) := ⟨by rw [hW2, ← s1.out]; exact lit_vals W1 exV _ rfl (by decide)⟩
  have L1' : Aside0 (Kd.C (Kd.int .u8) W2 (some ⟨w.heap.size, 0, none⟩) 3 [2, 3, 1]) := ⟨by rw [hW2]; exact Kd.C_alloc L1.out _⟩
  have P1 : Aside0 (Calls Try.prog 46 #[.slice (some ⟨w.heap.size, 0, none⟩) 3 3, .slice (some ⟨w.heap.size + 1, 0, none⟩) 3 3] W2 fun e w' => ∃ v0_ : Value, e = .returned (.tuple #[v0_, .int .i64 0]) ∧ Own (Kd.int .u8) 5 w.heap.size w w' v0_ [4, 1, 2, 97, 98] ∧ Kd.C (Kd.int .u8) w' (some ⟨w.heap.size, 0, none⟩) 3 [2, 3, 1]) :=
    ⟨(row_Put.calls _ 3 [2, 3, 1] _ 3 exV _ _ W2 L1'.out (Nat.le_refl _) L2.out (Nat.le_refl _) exPut).mono fun e w' ⟨v, h1, h2, h3⟩ => ⟨v, h1, Own.made B2.out B2.out.size h2 h3, Kd.C_below L1'.out h3⟩⟩
  have P2 : Aside0 (∀ (w3 : World) (v : Value), Own (Kd.int .u8) 5 w.heap.size w w3 v [4, 1, 2, 97, 98] → Kd.C (Kd.int .u8) w3 (some ⟨w.heap.size, 0, none⟩) 3 [2, 3, 1] → Calls Try.prog 49 #[.slice (some ⟨w.heap.size, 0, none⟩) 3 3, .slice (some ⟨w3.heap.size, 0, none⟩) 5 5] (w3.alloc (.cells #[.int .u8 4, .int .u8 1, .int .u8 2, .int .u8 97, .int .u8 98] 5 (5, 6))) fun e w' => ∃ (g : Nat) (c : Nat), e = .returned (.tuple #[.slice (some ⟨g, 0, none⟩) 3 c, .int .i64 0]) ∧ Aside0 (Own (Kd.int .u8) 5 w.heap.size w w' v [4, 1, 2, 97, 98]) ∧ (Aside0 (Kd.C k39 w' (some ⟨g, 0, none⟩) 3 exV))) := ⟨fun w3 v hO hC =>
    (row_Get.calls _ 3 [2, 3, 1] _ 5 [4, 1, 2, 97, 98] _ _ _ (Kd.C_alloc hC _) (Nat.le_refl _) (lit_bytes_fr w3 [4, 1, 2, 97, 98] _ (5, 6) rfl (by decide)) (Nat.le_refl _) exGet).mono fun e w' ⟨v1, h1, h2, h3⟩ => by
      obtain ⟨g, c, hv, _, _, _⟩ := Kd.R_form h2 (by decide)
      subst hv
      exact ⟨g, c, h1, ⟨(hO.alloc _).step h3⟩, ⟨(Kd.R_reads' h2).2.2⟩⟩⟩
  rw [hW2, hW1] at P1
  clear hW1 hW2
  have kc := conv_const
  go_enter Try.func48, Try.ntmps48
  go_wp2_with (first
    | (go_at_call 46; refine P1.out.mono ?_; rintro e w3 ⟨v3, rfl, ho3, hc3⟩; have HO3 := Aside0.mk ho3; have HC3 := Aside0.mk hc3; clear ho3 hc3)
    | (go_at_call 49; refine (P2.out w3 v3 HO3.out HC3.out).mono ?_; rintro e w4 ⟨g4, c4, rfl, HO4, HC4⟩
       obtain ⟨A5, n5, c5, e5, hn5, hc5, hC5⟩ := HO4.out.sl'
       subst e5
       obtain rfl : n5 = 5 := hn5.out
       have kst := HO4.out.str
       rw [exStr] at kst
       have hx := at_T39 HC4.out 0 (by decide) (by decide)
       obtain ⟨ad, e6, x00, x01, x02⟩ := hx
       cases e6
       obtain ⟨ad, e6, x10, x11, x12⟩ := at_T39 HC4.out 1 (by decide) (by decide)
       cases e6
       obtain ⟨ad, e6, x20, x21, x22⟩ := at_T39 HC4.out 2 (by decide) (by decide)
       cases e6
       change w4.cell? ⟨g4, 1, none⟩ = some (.int .i64 (-1)) at x01
       change w4.cell? ⟨g4, 5, none⟩ = some (.string ⟨#[97, 98]⟩) at x12
       change w4.cell? ⟨g4, 6, none⟩ = some (.int .u8 0) at x20
       change w4.cell? ⟨g4, 7, none⟩ = some (.int .i64 0) at x21
       change w4.cell? ⟨g4, 8, none⟩ = some (.string ⟨#[]⟩) at x22
       clear x00 x02 x10 x11))
  go_ret
  exact ⟨rfl, HO4.out.b⟩
end Go.Proofs.Ytlmcefhpnfoahaa.P
end

section
namespace Go.Proofs.Ytlmcefhpnfoahaa.P
open Go.RowKit Go.Proofs.YtlmcefhpnfoahaaW.PrintWords Go.Proofs.YtlmcefhpnfoahaaW.PrintLast Go.Proofs.YtlmcefhpnfoahaaW.PrintMore
attribute [local go_sem] max2_int min2_int max_two min_two max_three min_three max_four min_four   -- for this text's walks alone
set_option linter.unusedVariables false
set_option linter.unusedSimpArgs false

/-! ### tidelinelaw04_long: function 45 -/
mutual
def tidelinelaw04_long.j0 : Nat → List (S39) → Bool → Option (Bool)
  | 0, _, _ => none
  | k + 1, x1, x13 => if x13 = true then (some true) else (tidelinelaw04_long.l0 k x1 0)
def tidelinelaw04_long.l0 : Nat → List (S39) → Int → Option (Bool)
  | 0, _, _ => none
  | k + 1, x1, x5 => if x5 < (x1.length : Int) then (if 0 ≤ x5 then (if (((rd_T39 x1 x5).f2).size : Int) > 400 then (some true) else (tidelinelaw04_long.l0 k x1 (wrap64 (x5 + 1)))) else (none)) else (some false)
end
def tidelinelaw04_long.f (k : Nat) (l0 : List Int) (l1 : List (S39)) : Option (Bool) := if (l0.length : Int) > 60 then (tidelinelaw04_long.j0 k l1 true) else (tidelinelaw04_long.j0 k l1 (decide ((l1.length : Int) > 60)))
theorem tidelinelaw04_long.mono_l : ∀ k, (∀ y0 y1, LeO (tidelinelaw04_long.j0 k y0 y1) (tidelinelaw04_long.j0 (k + 1) y0 y1)) ∧ (∀ y0 y1, LeO (tidelinelaw04_long.l0 k y0 y1) (tidelinelaw04_long.l0 (k + 1) y0 y1))
  | 0 => ⟨fun _ _ r h => by simp [tidelinelaw04_long.j0] at h, fun _ _ r h => by simp [tidelinelaw04_long.l0] at h⟩
  | k + 1 => by
    obtain ⟨ih0, ih1⟩ := tidelinelaw04_long.mono_l k
    refine ⟨?_, ?_⟩
    · intro y0 y1
      unfold tidelinelaw04_long.j0
      repeat' first
      | (with_reducible exact ih0 _ _)
      | (with_reducible exact ih1 _ _)
      | (with_reducible exact LeO.refl _)
      | (with_reducible exact LeO.none _)
      | (with_reducible refine LeO.ite ?_ ?_)
      | (with_reducible refine LeO.bind ?_ (fun _ => ?_))
      | exact ih0 _ _
      | exact ih1 _ _
      | exact LeO.none _
      | refine LeO.ite ?_ ?_
      | refine LeO.bind ?_ (fun _ => ?_)
    · intro y0 y1
      unfold tidelinelaw04_long.l0
      repeat' first
      | (with_reducible exact ih0 _ _)
      | (with_reducible exact ih1 _ _)
      | (with_reducible exact LeO.refl _)
      | (with_reducible exact LeO.none _)
      | (with_reducible refine LeO.ite ?_ ?_)
      | (with_reducible refine LeO.bind ?_ (fun _ => ?_))
      | exact ih0 _ _
      | exact ih1 _ _
      | exact LeO.none _
      | refine LeO.ite ?_ ?_
      | refine LeO.bind ?_ (fun _ => ?_)
theorem tidelinelaw04_long.mono : ∀ a0 a1 k, LeO (tidelinelaw04_long.f k a0 a1) (tidelinelaw04_long.f (k + 1) a0 a1) := by
  intro a0 a1 k
  obtain ⟨ih0, ih1⟩ := tidelinelaw04_long.mono_l k
  unfold tidelinelaw04_long.f
  repeat' first
      | (with_reducible exact ih0 _ _)
      | (with_reducible exact ih1 _ _)
      | (with_reducible exact LeO.refl _)
      | (with_reducible exact LeO.none _)
      | (with_reducible refine LeO.ite ?_ ?_)
      | (with_reducible refine LeO.bind ?_ (fun _ => ?_))
      | exact ih0 _ _
      | exact ih1 _ _
      | exact LeO.none _
      | refine LeO.ite ?_ ?_
      | refine LeO.bind ?_ (fun _ => ?_)
set_option maxHeartbeats 8000000 in
set_option maxRecDepth 100000 in
theorem tidelinelaw04_long.calls (k : Nat) (A0 : Option Addr) (c0 : Nat) (l0 : List Int) (A1 : Option Addr) (c1 : Nat) (l1 : List (S39)) (r : Bool) (w : World) (hr0 : Kd.C (Kd.int .u8) w A0 l0.length l0) (hc0 : l0.length ≤ c0) (hr1 : Kd.C k39 w A1 l1.length l1) (hc1 : l1.length ≤ c1) (h : tidelinelaw04_long.f k l0 l1 = some r) :
    Calls Try.prog 45 #[.slice A0 l0.length c0, .slice A1 l1.length c1] w fun e w' => e = .returned (.bool r) ∧ Drawn0 w w' := by
  have HR0 := Aside0.mk hr0
  have HC0 := Aside0.mk hc0
  clear hr0 hc0
  have HR1 := Aside0.mk hr1
  have HC1 := Aside0.mk hc1
  clear hr1 hc1
  have H : (if (l0.length : Int) > 60 then (tidelinelaw04_long.j0 k l1 true) else (tidelinelaw04_long.j0 k l1 (decide ((l1.length : Int) > 60)))) = some r := h
  clear h
  have HC3 := Aside0.mk H
  clear H
  go_enter Try.func45, Try.ntmps45
  go_upto_region 1 with (fail)
  go_cut [13] (fun v13 wc => ∃ (kq : Nat) (x13_2 : Bool), v13 = .bool x13_2 ∧ Aside0 (tidelinelaw04_long.j0 kq l1 x13_2 = some r) ∧ Aside0 (kq ≤ k) ∧ Drawn0 w wc)
  case first =>
    have H := HC3.out
    clear HC3
    by_cases c4 : (l0.length : Int) > 60
    · rw [if_pos c4] at H
      have c4b0 : decide (60 < (l0.length : Int)) = true := decide_eq_true c4
      have c4b1 : decide (60 < l0.length) = true := decide_eq_true (by omega)
      clear c4
      (first | rw [c4b0] | (simp only [i64_w, i32_w]; rw [c4b0]) | skip)
      have H' := Aside0.mk H
      clear H
      go_wp2
      go_meet
      case rel => exact ⟨_, (true), (by first | rfl | (simp; done) | (simp [*]; done)), H', ⟨by first | omega | exact Nat.le_refl _⟩, by repeat (first | exact Drawn0.refl _ | apply Drawn0.step)⟩
    · rw [if_neg c4] at H
      have c4b0 : decide (60 < (l0.length : Int)) = false := decide_eq_false c4
      have c4b1 : decide (60 < l0.length) = false := decide_eq_false (by omega)
      clear c4
      (first | rw [c4b0] | (simp only [i64_w, i32_w]; rw [c4b0]) | skip)
      have H' := Aside0.mk H
      clear H
      go_wp2
      go_meet
      case rel => exact ⟨_, (decide ((l1.length : Int) > 60)), (by first | rfl | (simp; done) | (simp [*]; done)), H', ⟨by first | omega | exact Nat.le_refl _⟩, by repeat (first | exact Drawn0.refl _ | apply Drawn0.step)⟩
  case rest =>
    clear HC3
    try clear c1
    try clear p2
    try clear c4
    try clear c4b0
    try clear c4b1
    obtain ⟨kq, x13_2, rfl, HA, HJ2, ⟨mc2, rfl⟩⟩ := hcut
    cases kq with
    | zero => exact absurd HA.out (by simp [tidelinelaw04_long.j0])
    | succ kj2 =>
      have H := HA.out
      clear HA
      simp only [tidelinelaw04_long.j0] at H
      by_cases c5 : x13_2 = true
      · subst c5
        have H1 : (some true) = some r := by rw [if_pos rfl] at H; exact H
        clear H
        have H := H1
        clear H1
        obtain rfl := Option.some.inj H
        go_wp2
        go_ret
        exact ⟨by first | rfl | (simp; done) | (simp [*]; done), by repeat (first | exact Drawn0.refl _ | apply Drawn0.step)⟩
      · replace c5 := Bool.eq_false_iff.mpr c5
        subst c5
        have H1 : (tidelinelaw04_long.l0 kj2 l1 0) = some r := by rw [if_neg (show ¬ (false = true) by decide)] at H; exact H
        clear H
        have H := H1
        clear H1
        have H' := Aside0.mk H
        clear H
        go_wp2
        go_loopg [5] kj2 (fun kq v5 w' => ∃ (x5_2 : Int), v5 = .int .i64 x5_2 ∧ Aside0 (tidelinelaw04_long.l0 kq l1 x5_2 = some r) ∧ Aside0 (kq ≤ kj2) ∧ Drawn0 w w')
        case atStart => exact ⟨(0), (by first | rfl | (simp; done) | (simp [*]; done)), H', ⟨Nat.le_refl _⟩, by repeat (first | exact Drawn0.refl _ | apply Drawn0.step)⟩
        case round =>
          clear H'
          try clear c1
          try clear c2
          try clear p2
          try clear c4
          try clear c4b0
          try clear c4b1
          try clear c5
          try clear p2
          obtain ⟨x5_2, rfl, HA, HK2, ⟨m2, rfl⟩⟩ := hrel
          cases gk with
          | zero => exact absurd HA.out (by simp [tidelinelaw04_long.l0])
          | succ k2 =>
            have H := HA.out
            clear HA
            simp only [tidelinelaw04_long.l0] at H
            by_cases c6 : x5_2 < (l1.length : Int)
            · rw [if_pos c6] at H
              have c6b0 : decide (x5_2 < (l1.length : Int)) = true := decide_eq_true c6
              clear c6
              by_cases c7 : 0 ≤ x5_2
              · rw [if_pos c7] at H
                have c7b0 : decide (0 ≤ x5_2) = true := decide_eq_true c7
                clear c7
                by_cases c8 : (((rd_T39 l1 x5_2).f2).size : Int) > 400
                · rw [if_pos c8] at H
                  have c8b0 : decide (400 < (((rd_T39 l1 x5_2).f2).size : Int)) = true := decide_eq_true c8
                  have c8b1 : decide (400 < ((rd_T39 l1 x5_2).f2).size) = true := decide_eq_true (by omega)
                  clear c8
                  obtain rfl := Option.some.inj H
                  have p565 : 0 ≤ (x5_2 : Int) := of_decide_eq_true (by first | (with_reducible assumption) | assumption)
                  have q565 : x5_2 < (l1.length : Int) := of_decide_eq_true (by first | (with_reducible assumption) | assumption)
                  obtain ⟨ad565, e565, hx565_0, hx565_1, hx565_2⟩ := at_T39 HR1.out x5_2 p565 q565
                  cases e565
                  replace p565 := eq_true p565
                  replace q565 := eq_true q565
                  go_wp2
                  go_ret
                  exact ⟨by first | rfl | (simp; done) | (simp [*]; done), by repeat (first | exact Drawn0.refl _ | apply Drawn0.step)⟩
                · rw [if_neg c8] at H
                  have c8b0 : decide (400 < (((rd_T39 l1 x5_2).f2).size : Int)) = false := decide_eq_false c8
                  have c8b1 : decide (400 < ((rd_T39 l1 x5_2).f2).size) = false := decide_eq_false (by omega)
                  clear c8
                  have H' := Aside0.mk H
                  clear H
                  have p565 : 0 ≤ (x5_2 : Int) := of_decide_eq_true (by first | (with_reducible assumption) | assumption)
                  have q565 : x5_2 < (l1.length : Int) := of_decide_eq_true (by first | (with_reducible assumption) | assumption)
                  obtain ⟨ad565, e565, hx565_0, hx565_1, hx565_2⟩ := at_T39 HR1.out x5_2 p565 q565
                  cases e565
                  replace p565 := eq_true p565
                  replace q565 := eq_true q565
                  go_wp2
                  go_roundg k2
                  case measure => have := HJ2.out; have := HK2.out; omega
                  case rel => exact ⟨(wrap64 (x5_2 + 1)), (by first | rfl | (simp; done) | (simp [*]; done)), H', ⟨by have := HJ2.out; have := HK2.out; omega⟩, by repeat (first | exact Drawn0.refl _ | apply Drawn0.step)⟩
              · rw [if_neg c7] at H
                exact absurd H (by simp)
            · rw [if_neg c6] at H
              have c6b0 : decide (x5_2 < (l1.length : Int)) = false := decide_eq_false c6
              clear c6
              obtain rfl := Option.some.inj H
              go_wp2
              go_ret
              exact ⟨by first | rfl | (simp; done) | (simp [*]; done), by repeat (first | exact Drawn0.refl _ | apply Drawn0.step)⟩

end Go.Proofs.Ytlmcefhpnfoahaa.P
end

section
namespace Go.Proofs.Ytlmcefhpnfoahaa.P
open Go.RowKit Go.Proofs.YtlmcefhpnfoahaaW.PrintWords Go.Proofs.YtlmcefhpnfoahaaW.PrintLast Go.Proofs.YtlmcefhpnfoahaaW.PrintMore
set_option linter.unusedVariables false
set_option linter.unusedSimpArgs false
theorem rd_get {l : List Int} {i : Nat} (h : i < l.length) : rd l (i : Int) = l[i] := by simp [rd, List.getD_eq_getElem?_getD, List.getElem?_eq_getElem h]
/-! #### what row.Put tells is the row's bytes -/
theorem encVals_append (a b : List S39) : encVals (a ++ b) = encVals a ++ encVals b := by unfold encVals; rw [List.flatMap_append]
theorem putN_enc (l : List S39) : ∀ k, k ≤ l.length → putN l k = layN (fun i : Nat => nulV (rd_T39 l i)) l.length k ++ encVals (l.take k) := by
  intro k
  induction k with
  | zero => intro _; simp [putN, layN, encVals]
  | succ k ih =>
    intro hk
    have hlt : k < l.length := by omega
    have hl := layN_length (fun i : Nat => nulV (rd_T39 l i)) l.length k
    unfold putN layN
    rw [ih (by omega), List.take_succ_eq_append_getElem hlt, encVals_append, ← rdT_get hlt]
    unfold putStep
    by_cases h0 : (rd_T39 l k).f0 = 0
    · have hn : nulV (rd_T39 l k) = true := by simp [nulV, h0]
      have he : encVals [rd_T39 l k] = [] := by simp [encVals, h0]
      rw [if_pos h0, hn, he, List.append_nil]
      simp only [if_true]
      exact setBit_append _ _ k (by omega)
    · have hn : nulV (rd_T39 l k) = false := by simp [nulV, h0]
      have he : encVals [rd_T39 l k] = enc1 (rd_T39 l k) := by simp [encVals, h0]
      rw [if_neg h0, hn, he, List.append_assoc]
      rfl
theorem putN_all (l : List S39) : putN l l.length = encRow l := by
  rw [putN_enc l l.length (Nat.le_refl _), List.take_length]
  rfl
theorem fitN_fit : ∀ (t : List Int) (l : List S39), l.length = t.length → fitN t l l.length = fit t l := by
  intro t
  induction t with
  | nil => intro l h; cases l with
    | nil => rfl
    | cons x l => simp at h
  | cons a t ih => intro l h; cases l with
    | nil => simp at h
    | cons x l =>
      unfold fit
      rw [← ih l (by simpa using h)]
      unfold fitN
      rw [List.length_cons, List.range_succ_eq_map, List.all_cons, List.all_map]
      congr 1
theorem fit_len_iff (t : List Int) (l : List S39) : (l.length = t.length ∧ fitN t l l.length = true) ↔ fit t l = true := by
  constructor
  · intro h; rw [← fitN_fit t l h.1]; exact h.2
  · intro h
    have := fit_length t l h
    exact ⟨this, by rw [fitN_fit t l this]; exact h⟩
theorem rowPut_f (t : List Int) (l : List S39) (ht : t.length ≤ 500) (hl : l.length ≤ 64) (hn : l.all okNum = true) (hs : (l.all fun x => decide (x.f2.size ≤ 10000)) = true) : row_Put.f t l = some (putRow t l) := by
  unfold row_Put.f putRow
  rw [if_pos ⟨ht, hl, hn, hs⟩, putN_all]
  congr 1
  by_cases h : knownT t = true ∧ fit t l = true
  · rw [if_pos h, if_pos ⟨h.1, (fit_len_iff t l).mpr h.2⟩]
  · rw [if_neg h, if_neg (fun h2 => h ⟨h2.1, (fit_len_iff t l).mp h2.2⟩)]
theorem rowGet_f (t b : List Int) (ht : t.length ≤ 500) (hb : b.length ≤ 100000) (hy : ∀ x ∈ b, isByte x = true) : row_Get.f t b = some (getRow t b) := by
  unfold row_Get.f
  rw [if_pos ⟨ht, hb, by rw [List.all_eq_true]; exact hy⟩]
theorem tdiv8 (i : Nat) (hi : i ≤ 1000000) : wrap64 (Int.tdiv (i : Int) 8) = ((i / 8 : Nat) : Int) := by
  rw [Int.tdiv_eq_ediv_of_nonneg (by omega)]
  unfold wrap64
  omega
theorem tmod8 (i : Nat) : Int.tmod (i : Int) 8 = ((i % 8 : Nat) : Int) := by rw [Int.tmod_eq_emod_of_nonneg (by omega)]; omega
theorem fit_kinds : ∀ (t : List Int) (l : List S39), knownT t = true → fit t l = true → ∀ x ∈ l, mayB x = true ∧ (x.f0 = 0 ∨ x.f0 = 1 ∨ x.f0 = 2 ∨ x.f0 = 3) := by
  intro t
  induction t with
  | nil => intro l _ h; cases l with
    | nil => intro x hx; cases hx
    | cons x l => cases h
  | cons a t ih => intro l hk h; cases l with
    | nil => cases h
    | cons y l =>
      obtain ⟨_, hk⟩ := known_cons hk
      unfold fit at h
      rw [Bool.and_eq_true] at h
      intro x hx
      rcases List.mem_cons.mp hx with rfl | hx
      · have h1 := h.1
        unfold rowMay at h1
        rw [Bool.and_eq_true] at h1
        exact ⟨h1.1, mayB_kind x h1.1⟩
      · exact ih l hk h.2 x hx
/-! #### long -/
theorem long4_l0 (l : List S39) (hl : l.length < 1000000) : ∀ (d k i : Nat), i + d = l.length → d < k → ∃ r, tidelinelaw04_long.l0 k l i = some r ∧ (r = false → ∀ j, i ≤ j → j < l.length → (rd_T39 l j).f2.size ≤ 400) := by
  intro d
  induction d with
  | zero =>
    intro k i hi hk
    obtain ⟨k, rfl⟩ : ∃ j, k = j + 1 := ⟨k - 1, by omega⟩
    rw [tidelinelaw04_long.l0, if_neg (by omega)]
    exact ⟨false, rfl, fun _ j h1 h2 => by omega⟩
  | succ d ih =>
    intro k i hi hk
    obtain ⟨k, rfl⟩ : ∃ j, k = j + 1 := ⟨k - 1, by omega⟩
    rw [tidelinelaw04_long.l0, if_pos (by omega), if_pos (by omega), w64s i (by omega)]
    by_cases h : ((rd_T39 l i).f2.size : Int) > 400
    · rw [if_pos h]; exact ⟨true, rfl, fun h => by cases h⟩
    · rw [if_neg h]
      obtain ⟨r, hr, hp⟩ := ih k (i + 1) (by omega) (by omega)
      refine ⟨r, hr, fun h0 j h1 h2 => ?_⟩
      by_cases hj : j = i
      · subst hj; omega
      · exact hp h0 j (by omega) h2
theorem long4_some (t : List Int) (l : List S39) : ∃ r, tidelinelaw04_long.f 63 t l = some r ∧ (r = false → t.length ≤ 60 ∧ l.length ≤ 60 ∧ ∀ x ∈ l, x.f2.size ≤ 400) := by
  unfold tidelinelaw04_long.f
  by_cases h : (t.length : Int) > 60
  · exact ⟨true, by rw [if_pos h, tidelinelaw04_long.j0, if_pos rfl], fun h => by cases h⟩
  · rw [if_neg h]
    by_cases h2 : (l.length : Int) > 60
    · exact ⟨true, by rw [decide_eq_true h2, tidelinelaw04_long.j0, if_pos rfl], fun h => by cases h⟩
    · obtain ⟨r, hr, hp⟩ := long4_l0 l (by omega) l.length 62 0 (by omega) (by omega)
      refine ⟨r, by rw [decide_eq_false h2, tidelinelaw04_long.j0, if_neg (by decide)]; exact hr, fun h0 => ⟨by omega, by omega, fun x hx => ?_⟩⟩
      obtain ⟨j, hj, e⟩ := List.getElem_of_mem hx
      have := hp h0 j (Nat.zero_le _) hj
      rw [rdT_get hj, e] at this
      exact this
theorem long4_k (t : List Int) (l : List S39) (k : Nat) (hk : 63 ≤ k) : ∃ r, tidelinelaw04_long.f k t l = some r ∧ (r = false → t.length ≤ 60 ∧ l.length ≤ 60 ∧ ∀ x ∈ l, x.f2.size ≤ 400) := by
  obtain ⟨r, h1, h2⟩ := long4_some t l
  exact ⟨r, leO_le (g := fun k => tidelinelaw04_long.f k t l) (tidelinelaw04_long.mono t l) hk h1, h2⟩
theorem same_k (a b : List S39) (hm : a.length ≤ maxLen) (k : Nat) (hk : a.length < k) : ∃ r, tidelineref03_Same.f k a b = some r ∧ (r = true ↔ a = b) := by
  obtain ⟨r, h1, h2⟩ := refSame a b hm
  exact ⟨r, leO_le (g := fun k => tidelineref03_Same.f k a b) (tidelineref03_Same.mono a b) hk h1, h2⟩
theorem same_self_k (a : List S39) (hm : a.length ≤ maxLen) (k : Nat) (hk : a.length < k) : tidelineref03_Same.f k a a = some true := by
  obtain ⟨r, h1, h2⟩ := same_k a a hm k hk
  rw [h1, h2.mpr rfl]
theorem encVals_bytes (l : List S39) (h : ∀ x ∈ l, okV x) : ∀ c ∈ encVals l, isByte c = true := by
  intro c hc
  unfold encVals at hc
  obtain ⟨x, hx, h2⟩ := List.mem_flatMap.mp hc
  split at h2
  · cases h2
  · exact enc1_bytes x (h x hx).1 (h x hx).2 c h2
theorem encRow_bytes (l : List S39) (h : ∀ x ∈ l, okV x) : ∀ c ∈ encRow l, isByte c = true := by
  intro c hc
  unfold encRow at hc
  rcases List.mem_append.mp hc with hc | hc
  · exact lay_bytes _ _ c hc
  · exact encVals_bytes l h c hc
theorem enc1_len4 (x : S39) (hs : x.f2.size ≤ 400) : (enc1 x).length ≤ 410 := by
  unfold enc1
  split
  · simp
  · split
    · have := vput_length 9 (zig x.f1); omega
    · have := vput_length 9 (x.f2.size : Int); rw [List.length_append, bytesOf_length]; omega
theorem encVals_le (l : List S39) (h : ∀ x ∈ l, x.f2.size ≤ 400) : (encVals l).length ≤ 410 * l.length := by
  induction l with
  | nil => simp [encVals]
  | cons x l ih =>
    have h1 := ih (fun y hy => h y (by simp [hy]))
    have h2 := enc1_len4 x (h x (by simp))
    have e : encVals (x :: l) = (if x.f0 = 0 then [] else enc1 x) ++ encVals l := rfl
    rw [e, List.length_append, List.length_cons]
    split <;> simp <;> omega
theorem encRow_le (l : List S39) (h : ∀ x ∈ l, x.f2.size ≤ 400) : (encRow l).length ≤ (l.length + 7) / 8 + 410 * l.length := by
  have := encVals_le l h
  unfold encRow
  rw [List.length_append, lay_length]
  omega
theorem getRow_nil (t b : List Int) (h : (getRow t b).2 ≠ 0) : (getRow t b).1 = [] := by
  unfold getRow at h ⊢
  split
  · rfl
  · rename_i h1
    rw [if_neg h1] at h
    split
    · rfl
    · rename_i h2
      rw [if_neg h2] at h
      split
      · rfl
      · rename_i h3
        rw [if_neg h3] at h
        split
        · rfl
        · rename_i h4
          rw [if_neg h4] at h
          split
          · rfl
          · rename_i h5
            rw [if_neg h5] at h
            exact absurd rfl h
theorem sizes_all' (l : List S39) (n : Nat) (h : ∀ x ∈ l, x.f2.size ≤ n) : (l.all fun x => decide (x.f2.size ≤ n)) = true := by
  rw [List.all_eq_true]
  intro x hx
  simpa using h x hx
theorem putRow_self (t : List Int) (l : List S39) (hk : knownT t = true) (hf : fit t l = true) : putRow t l = (encRow l, 0) := by unfold putRow; rw [if_pos ⟨hk, hf⟩]
end Go.Proofs.Ytlmcefhpnfoahaa.P
end

section
namespace Go.Proofs.Ytlmcefhpnfoahaa.P
open Go
def headNums : List Nat := [104, 97, 114, 110, 101, 115, 115, 32, 52, 99, 52, 100, 50, 98, 52, 55, 56, 54, 57, 48, 100, 97, 50, 98, 56, 98, 101, 57, 48, 50, 100, 101, 55, 57, 54, 57, 97, 53, 53, 97, 101, 49, 101, 50, 48, 97, 57, 101, 101, 49, 97, 54, 49, 51, 50, 100, 102, 101, 50, 51, 48, 50, 52, 57, 101, 101, 55, 57, 49, 50, 56, 97, 32, 99, 117, 116, 32, 97, 116, 32, 116, 105, 100, 101, 108, 105, 110, 101, 47, 116, 105, 100, 101, 108, 105, 110, 101, 108, 97, 119, 48, 51, 46, 75, 101, 121, 65, 112, 112, 101, 110, 100, 115, 32, 116, 105, 100, 101, 108, 105, 110, 101, 47, 116, 105, 100, 101, 108, 105, 110, 101, 108, 97, 119, 48, 51, 46, 75, 101, 121, 79, 114, 100, 101, 114, 115, 32, 116, 105, 100, 101, 108, 105, 110, 101, 47, 116, 105, 100, 101, 108, 105, 110, 101, 108, 97, 119, 48, 51, 46, 75, 101, 121, 66, 97, 99, 107, 32, 116, 105, 100, 101, 108, 105, 110, 101, 47, 116, 105, 100, 101, 108, 105, 110, 101, 108, 97, 119, 48, 51, 46, 75, 101, 121, 75, 110, 111, 119, 110, 32, 116, 105, 100, 101, 108, 105, 110, 101, 47, 116, 105, 100, 101, 108, 105, 110, 101, 108, 97, 119, 48, 51, 46, 75, 101, 121, 80, 97, 114, 115, 101, 115, 32, 116, 105, 100, 101, 108, 105, 110, 101, 47, 116, 105, 100, 101, 108, 105, 110, 101, 108, 97, 119, 48, 51, 46, 75, 101, 121, 80, 114, 101, 102, 105, 120, 32, 116, 105, 100, 101, 108, 105, 110, 101, 47, 116, 105, 100, 101, 108, 105, 110, 101, 108, 97, 119, 48, 55, 46, 83, 101, 103, 109, 101, 110, 116, 67, 117, 116, 115, 32, 116, 105, 100, 101, 108, 105, 110, 101, 47, 116, 105, 100, 101, 108, 105, 110, 101, 108, 97, 119, 48, 52, 46, 82, 111, 119, 80, 117, 116, 115, 32, 116, 105, 100, 101, 108, 105, 110, 101, 47, 116, 105, 100, 101, 108, 105, 110, 101, 108, 97, 119, 48, 52, 46, 82, 111, 119, 71, 101, 116, 115, 32, 116, 105, 100, 101, 108, 105, 110, 101, 47, 116, 105, 100, 101, 108, 105, 110, 101, 108, 97, 119, 48, 55, 46, 83, 101, 103, 109, 101, 110, 116, 75, 110, 111, 119, 110, 32, 116, 105, 100, 101, 108, 105, 110, 101, 47, 116, 105, 100, 101, 108, 105, 110, 101, 108, 97, 119, 48, 52, 46, 82, 111, 119, 66, 97, 99, 107, 32, 116, 105, 100, 101, 108, 105, 110, 101, 47, 116, 105, 100, 101, 108, 105, 110, 101, 108, 97, 119, 48, 52, 46, 82, 111, 119, 65, 112, 97, 114, 116, 32, 116, 105, 100, 101, 108, 105, 110, 101, 47, 116, 105, 100, 101, 108, 105, 110, 101, 108, 97, 119, 48, 52, 46, 82, 111, 119, 83, 105, 122, 101, 115, 32, 116, 105, 100, 101, 108, 105, 110, 101, 47, 116, 105, 100, 101, 108, 105, 110, 101, 108, 97, 119, 48, 52, 46, 82, 111, 119, 75, 110, 111, 119, 110, 32, 116, 105, 100, 101, 108, 105, 110, 101, 47, 116, 105, 100, 101, 108, 105, 110, 101, 108, 97, 119, 48, 54, 46, 67, 111, 108, 117, 109, 110, 80, 117, 116, 115, 32, 116, 105, 100, 101, 108, 105, 110, 101, 47, 116, 105, 100, 101, 108, 105, 110, 101, 108, 97, 119, 48, 54, 46, 67, 111, 108, 117, 109, 110, 71, 101, 116, 115, 32, 116, 105, 100, 101, 108, 105, 110, 101, 47, 116, 105, 100, 101, 108, 105, 110, 101, 108, 97, 119, 48, 54, 46, 67, 111, 108, 117, 109, 110, 66, 97, 99, 107, 32, 116, 105, 100, 101, 108, 105, 110, 101, 47, 116, 105, 100, 101, 108, 105, 110, 101, 108, 97, 119, 48, 54, 46, 67, 111, 108, 117, 109, 110, 65, 112, 97, 114, 116, 32, 116, 105, 100, 101, 108, 105, 110, 101, 47, 116, 105, 100, 101, 108, 105, 110, 101, 108, 97, 119, 48, 54, 46, 67, 111, 108, 117, 109, 110, 83, 109, 97, 108, 108, 32, 116, 105, 100, 101, 108, 105, 110, 101, 47, 116, 105, 100, 101, 108, 105, 110, 101, 108, 97, 119, 48, 54, 46, 67, 111, 108, 117, 109, 110, 66, 111, 117, 110, 100, 115, 32, 116, 105, 100, 101, 108, 105, 110, 101, 47, 116, 105, 100, 101, 108, 105, 110, 101, 108, 97, 119, 48, 54, 46, 67, 111, 108, 117, 109, 110, 76, 105, 101, 115, 32, 116, 105, 100, 101, 108, 105, 110, 101, 47, 116, 105, 100, 101, 108, 105, 110, 101, 108, 97, 119, 48, 54, 46, 67, 111, 108, 117, 109, 110, 75, 110, 111, 119, 110, 32, 116, 105, 100, 101, 108, 105, 110, 101, 47, 116, 105, 100, 101, 108, 105, 110, 101, 108, 97, 119, 48, 55, 46, 83, 101, 103, 109, 101, 110, 116, 77, 97, 107, 101, 115, 32, 116, 105, 100, 101, 108, 105, 110, 101, 47, 116, 105, 100, 101, 108, 105, 110, 101, 108, 97, 119, 48, 55, 46, 83, 101, 103, 109, 101, 110, 116, 79, 112, 101, 110, 115, 32, 116, 105, 100, 101, 108, 105, 110, 101, 47, 116, 105, 100, 101, 108, 105, 110, 101, 108, 97, 119, 48, 55, 46, 83, 101, 103, 109, 101, 110, 116, 66, 97, 99, 107, 32, 116, 105, 100, 101, 108, 105, 110, 101, 47, 116, 105, 100, 101, 108, 105, 110, 101, 108, 97, 119, 48, 55, 46, 83, 101, 103, 109, 101, 110, 116, 66, 111, 117, 110, 100, 115]
theorem head_text : Try.prog.initOrder = "harness 4c4d2b478690da2b8be902de7969a55ae1e20a9ee1a6132dfe230249ee79128a cut at tideline/tidelinelaw03.KeyAppends tideline/tidelinelaw03.KeyOrders tideline/tidelinelaw03.KeyBack tideline/tidelinelaw03.KeyKnown tideline/tidelinelaw03.KeyParses tideline/tidelinelaw03.KeyPrefix tideline/tidelinelaw07.SegmentCuts tideline/tidelinelaw04.RowPuts tideline/tidelinelaw04.RowGets tideline/tidelinelaw07.SegmentKnown tideline/tidelinelaw04.RowBack tideline/tidelinelaw04.RowApart tideline/tidelinelaw04.RowSizes tideline/tidelinelaw04.RowKnown tideline/tidelinelaw06.ColumnPuts tideline/tidelinelaw06.ColumnGets tideline/tidelinelaw06.ColumnBack tideline/tidelinelaw06.ColumnApart tideline/tidelinelaw06.ColumnSmall tideline/tidelinelaw06.ColumnBounds tideline/tidelinelaw06.ColumnLies tideline/tidelinelaw06.ColumnKnown tideline/tidelinelaw07.SegmentMakes tideline/tidelinelaw07.SegmentOpens tideline/tidelinelaw07.SegmentBack tideline/tidelinelaw07.SegmentBounds" := by kernel_rfl
set_option maxRecDepth 100000 in
theorem head_lit : "harness 4c4d2b478690da2b8be902de7969a55ae1e20a9ee1a6132dfe230249ee79128a cut at tideline/tidelinelaw03.KeyAppends tideline/tidelinelaw03.KeyOrders tideline/tidelinelaw03.KeyBack tideline/tidelinelaw03.KeyKnown tideline/tidelinelaw03.KeyParses tideline/tidelinelaw03.KeyPrefix tideline/tidelinelaw07.SegmentCuts tideline/tidelinelaw04.RowPuts tideline/tidelinelaw04.RowGets tideline/tidelinelaw07.SegmentKnown tideline/tidelinelaw04.RowBack tideline/tidelinelaw04.RowApart tideline/tidelinelaw04.RowSizes tideline/tidelinelaw04.RowKnown tideline/tidelinelaw06.ColumnPuts tideline/tidelinelaw06.ColumnGets tideline/tidelinelaw06.ColumnBack tideline/tidelinelaw06.ColumnApart tideline/tidelinelaw06.ColumnSmall tideline/tidelinelaw06.ColumnBounds tideline/tidelinelaw06.ColumnLies tideline/tidelinelaw06.ColumnKnown tideline/tidelinelaw07.SegmentMakes tideline/tidelinelaw07.SegmentOpens tideline/tidelinelaw07.SegmentBack tideline/tidelinelaw07.SegmentBounds" = String.ofList (headNums.map Char.ofNat) := by kernel_rfl
theorem head_list : Try.prog.initOrder.toList = headNums.map Char.ofNat := by rw [head_text, head_lit, String.toList_ofList]
set_option maxRecDepth 100000 in
theorem head_cut : (behindMainWord (wordsSigns (headNums.map Char.ofNat))).head? = some "cut".toList := by kernel_rfl
theorem head_words : ∃ rest, behindMainWord (wordsSigns Try.prog.initOrder.toList) = "cut".toList :: rest := by
  rw [head_list]
  have h := head_cut
  cases hw : behindMainWord (wordsSigns (headNums.map Char.ofNat)) with
  | nil => rw [hw] at h; cases h
  | cons a r => rw [hw] at h; injection h with h; exact ⟨r, by rw [h]⟩
theorem strip_cut (rest : List (List Char)) : stripLifts liftWords ("cut".toList :: rest) = ([], "cut".toList :: rest) := by kernel_rfl
theorem cut_carried : ("cut".toList == "carried".toList) = false := by kernel_rfl
theorem cut_gc : ("cut".toList == "gc".toList) = false := by kernel_rfl
theorem cut_spec : ("cut".toList == "spec".toList) = false := by kernel_rfl
theorem cut_cut : ("cut".toList == "cut".toList) = true := by kernel_rfl
theorem fact_stops : (Try.prog.stops == []) = true := by kernel_rfl
theorem fact_stopKnobs : (Try.prog.stopKnobs == []) = true := by kernel_rfl
theorem fact_mapsRowed : mapsRowed Try.prog = true := by kernel_rfl
theorem fact_plainKeys : Try.prog.plainKeys = true := by kernel_rfl
theorem fact_stopsHeard : Try.prog.stopsHeard = true := by kernel_rfl
theorem fact_laidOut : laidOutB Try.prog = true := by kernel_rfl
theorem fact_laysLater : Try.prog.laysLater = false := by kernel_rfl
theorem fact_door : Try.prog.doorFits [] = true := by kernel_rfl
/-- The functions without a body. -/
def bare : List String := ["main.main", "gosem.cut", "internal/bytealg.Compare", "(runtime.boundsError).Error", "(runtime.boundsError).RuntimeError", "(runtime.errorString).Error", "(runtime.errorString).RuntimeError", "(runtime.plainError).Error", "(runtime.plainError).RuntimeError", "(runtime.errorAddressString).Error", "(runtime.errorAddressString).RuntimeError", "(*runtime.TypeAssertionError).Error", "(*runtime.TypeAssertionError).RuntimeError", "(*runtime.PanicNilError).Error", "(*runtime.PanicNilError).RuntimeError", "(*internal/abi.Type).Align", "(internal/runtime/maps.unhashableTypeError).Error", "(internal/runtime/maps.unhashableTypeError).RuntimeError", "(tideline/api.Errno).Error", "(internal/abi.Kind).String"]
theorem bare_eq : (Try.prog.funcs.toList.filter (fun fn => fn.body.isNone)).map (fun fn => fn.name) = bare := by kernel_rfl
def reflName (s : String) : Bool := opensWith (nameBytes "reflect.") (nameBytes s) || opensWith (nameBytes "(reflect.") (nameBytes s) || opensWith (nameBytes "(*reflect.") (nameBytes s)
theorem bare0 : reflName "main.main" = false := by kernel_rfl
theorem bare1 : reflName "gosem.cut" = false := by kernel_rfl
theorem bare2 : reflName "internal/bytealg.Compare" = false := by kernel_rfl
theorem bare3 : reflName "(runtime.boundsError).Error" = false := by kernel_rfl
theorem bare4 : reflName "(runtime.boundsError).RuntimeError" = false := by kernel_rfl
theorem bare5 : reflName "(runtime.errorString).Error" = false := by kernel_rfl
theorem bare6 : reflName "(runtime.errorString).RuntimeError" = false := by kernel_rfl
theorem bare7 : reflName "(runtime.plainError).Error" = false := by kernel_rfl
theorem bare8 : reflName "(runtime.plainError).RuntimeError" = false := by kernel_rfl
theorem bare9 : reflName "(runtime.errorAddressString).Error" = false := by kernel_rfl
theorem bare10 : reflName "(runtime.errorAddressString).RuntimeError" = false := by kernel_rfl
theorem bare11 : reflName "(*runtime.TypeAssertionError).Error" = false := by kernel_rfl
theorem bare12 : reflName "(*runtime.TypeAssertionError).RuntimeError" = false := by kernel_rfl
theorem bare13 : reflName "(*runtime.PanicNilError).Error" = false := by kernel_rfl
theorem bare14 : reflName "(*runtime.PanicNilError).RuntimeError" = false := by kernel_rfl
theorem bare15 : reflName "(*internal/abi.Type).Align" = false := by kernel_rfl
theorem bare16 : reflName "(internal/runtime/maps.unhashableTypeError).Error" = false := by kernel_rfl
theorem bare17 : reflName "(internal/runtime/maps.unhashableTypeError).RuntimeError" = false := by kernel_rfl
theorem bare18 : reflName "(tideline/api.Errno).Error" = false := by kernel_rfl
theorem bare19 : reflName "(internal/abi.Kind).String" = false := by kernel_rfl
theorem bare_no : bare.any reflName = false := by
  unfold bare
  simp only [List.any_cons, List.any_nil, bare0, bare1, bare2, bare3, bare4, bare5, bare6, bare7, bare8, bare9, bare10, bare11, bare12, bare13, bare14, bare15, bare16, bare17, bare18, bare19, Bool.or_false]
theorem any_filter_map (l : List Func) (p : Func → Bool) (q : String → Bool) : (l.any fun fn => p fn && q fn.name) = ((l.filter p).map (fun fn => fn.name)).any q := by
  induction l with
  | nil => rfl
  | cons a r ih =>
    rw [List.any_cons, ih, List.filter_cons]
    cases p a <;> simp
theorem fact_reflect : Try.prog.bearsReflect = false := by
  show (Try.prog.funcs.toList.any fun fn => fn.body.isNone && reflName fn.name) = false
  rw [any_filter_map, bare_eq, bare_no]
theorem mayEnter_of (P : Program) (rest : List (List Char)) (h : behindMainWord (wordsSigns P.initOrder.toList) = "cut".toList :: rest) (h1 : P.laysLater = false) (h2 : P.bearsReflect = false) (h3 : P.doorFits [] = true) : P.mayEnter = true := by
  unfold Program.mayEnter
  rw [h]
  dsimp only
  rw [strip_cut, h1, h2, h3]
  simp only [List.head?_cons, Option.some_beq_some, cut_cut, Bool.not_false, Bool.or_true, Bool.and_true, List.contains_nil]
theorem headLifts_of (P : Program) (rest : List (List Char)) (h : behindMainWord (wordsSigns P.initOrder.toList) = "cut".toList :: rest) : P.headLifts = [] := by
  unfold Program.headLifts
  rw [h, strip_cut]
  simp only [List.head?_cons, Option.some_beq_some, cut_cut, if_true]
theorem liftsFinal_of (P : Program) (rest : List (List Char)) (h : behindMainWord (wordsSigns P.initOrder.toList) = "cut".toList :: rest) : P.liftsFinal = false := by
  unfold Program.liftsFinal
  rw [h, headLifts_of P rest h]
  simp only [List.head?_cons, Option.some_beq_some, cut_carried, Bool.false_and, List.contains_nil, Bool.or_false]
theorem make_of (P : Program) (rest : List (List Char)) (h : behindMainWord (wordsSigns P.initOrder.toList) = "cut".toList :: rest) : P.make = some .cut := by
  unfold Program.make
  rw [h]
  simp only [cut_gc, cut_spec, cut_cut, Bool.or_false, Bool.true_or, Bool.false_eq_true, if_false, if_true]
theorem joined_of (P : Program) (f : FuncId) (fn : Func) (s : ChangeSpec) (c : OpenClaim) (h0 : c.wf (OpenSpec.ofChange s) = true) (h1 : laidOutB P = true) (h2 : mapsRowed P = true) (h3 : fn.params.all (P.readableRec ·) = true) (h4 : namedTie P c.named s.vars = true) (h5 : (c.stops == []) = true) (h6 : (P.stops == []) = true) (h7 : (c.knobs == []) = true) (h8 : (P.stopKnobs == []) = true)
    (h9 : (c.inPlace == P.inPlace f) = true) (h10 : (c.unfollowed == P.unfollowed f) = true) (h11 : (c.recurses == P.recurses f) = true) (h12 : (c.named == P.varsNamed f) = true) (h13 : (c.maps == (fn.params.toList ++ s.plain.varTypes P).any (P.mapsRec ·)) = true) (h14 : (c.ifaces == (fn.params.toList ++ s.plain.varTypes P).any (P.ifacesRec ·)) = true) (h15 : (c.mapsOut == P.mapsAmong fn.resultTypes.toList) = true)
    (h16 : (c.loops == (fn.params.toList ++ s.plain.varTypes P).any (P.loopsFrom ·)) = true) (h17 : (c.wideKeys == (fn.params.toList ++ s.plain.varTypes P ++ fn.resultTypes.toList).any (P.wideKeysFrom ·)) = true) (h18 : s.vars.all (P.varReadable ·) = true) (h19 : fn.resultTypes.all (fun t => P.readableRec t && decide (t < P.types.size)) = true) (h20 : (c.ifacesOut == fn.resultTypes.toList.any (P.ifacesRec ·)) = true) (h21 : (c.loopsOut == fn.resultTypes.toList.any (P.loopsFrom ·)) = true)
    (h22 : (c.plainKeys == P.plainKeys) = (c.plainKeys == true)) (h23 : c.plainKeys = true) (h24 : c.shortTexts.isNone = true) (h25 : P.stopsHeard = true) (h26 : P.mayEnter = true) (h27 : (c.lifted == P.liftsFinal) = (c.lifted == false)) (h28 : c.lifted = false) (h29 : (P.make == some c.make) = true)
    (h30 : (c.kinds == (if c.domain.isEmpty then [] else fn.params.toList.map fun t => match P.underlying t with | some (.int k) => some k | _ => none)) = true) (h31 : (c.pinned == c.pinnedBy) = true) (h32 : (c.veiled == (fn.params.toList ++ s.plain.varTypes P ++ fn.resultTypes.toList).any (P.veiledRec ·)) = true) (h33 : c.veiledFits P fn.params.toList (fn.params.toList ++ s.plain.varTypes P ++ fn.resultTypes.toList) = true) : joinedFacts P f fn s c = true := by
  unfold joinedFacts
  rw [h0, h1, h2, h3, h4, h5, h6, h7, h8, h9, h10, h11, h12, h13, h14, h15, h16, h17, h18, h19, h20, h21, h22, h23, h24, h25, h26, h27, h28, h29, h31, h32, h33]
  simp only [Bool.true_and, Bool.and_true, beq_self_eq_true]
  exact h30
theorem fact_mayEnter : Try.prog.mayEnter = true := head_words.elim fun rest h => mayEnter_of Try.prog rest h fact_laysLater fact_reflect fact_door
theorem fact_liftsFinal : Try.prog.liftsFinal = false := head_words.elim fun rest h => liftsFinal_of Try.prog rest h
theorem fact_make : Try.prog.make = some .cut := head_words.elim fun rest h => make_of Try.prog rest h
end Go.Proofs.Ytlmcefhpnfoahaa.P
end
