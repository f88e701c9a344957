/- The row of the law ColumnLies: at every input it answers true, and each argument reads behind the call as it did. No condition. -/
import Derived.WalkKit
import Derived.ProofKit
import Derived.OpenShut
import Derived.ShutString
import Derived.ChangeOld
import Derived.Below
import Derived.SizedLaws
import Derived.Test.YtlmcefhpnfoahaaRows
import Derived.Test.YtlmcefhpnfoahaaMColumnLies1
section
namespace Go.Proofs.Ytlmcefhpnfoahaa.P
open Go.RowKit Go.Proofs.YtlmcefhpnfoahaaW.PrintWords Go.Proofs.YtlmcefhpnfoahaaW.PrintLast Go.Proofs.YtlmcefhpnfoahaaW.PrintMore
set_option linter.unusedVariables false
set_option linter.unusedSimpArgs false

theorem lx_trans : ∀ a b c : List Int, lx a b = true → lx b c = true → lx a c = true := by
  intro a
  induction a with
  | nil => intro b c h1 h2; cases b with
    | nil => cases h1
    | cons y b => cases c with
      | nil => cases h2
      | cons z c => rfl
  | cons x a ih => intro b c h1 h2; cases b with
    | nil => cases h1
    | cons y b => cases c with
      | nil => cases h2
      | cons z c =>
        simp only [lx, Bool.or_eq_true, Bool.and_eq_true, decide_eq_true_eq] at h1 h2 ⊢
        rcases h1 with h1 | ⟨h1, h1'⟩ <;> rcases h2 with h2 | ⟨h2, h2'⟩
        · exact Or.inl (by omega)
        · exact Or.inl (by omega)
        · exact Or.inl (by omega)
        · exact Or.inr ⟨by omega, ih b c h1' h2'⟩
theorem lessV_trans (x y z : S39) (h1 : lessV x y = true) (h2 : lessV y z = true) : lessV x z = true := by
  unfold lessV at h1 h2 ⊢
  by_cases a : x.f0 = y.f0
  · rw [if_pos a] at h1
    by_cases b : y.f0 = z.f0
    · rw [if_pos b] at h2
      rw [if_pos (by omega)]
      by_cases c : x.f0 = 3
      · rw [if_pos c, lx_texts] at h1
        rw [if_pos (by omega), lx_texts] at h2
        rw [if_pos c, lx_texts]
        exact lx_trans _ _ _ h1 h2
      · rw [if_neg c, decide_eq_true_eq] at h1
        rw [if_neg (by omega), decide_eq_true_eq] at h2
        rw [if_neg c, decide_eq_true_eq]
        omega
    · rw [if_neg b, decide_eq_true_eq] at h2
      rw [if_neg (by omega), decide_eq_true_eq]
      omega
  · rw [if_neg a, decide_eq_true_eq] at h1
    by_cases b : y.f0 = z.f0
    · rw [if_neg (by omega), decide_eq_true_eq]
      omega
    · rw [if_neg b, decide_eq_true_eq] at h2
      rw [if_neg (by omega), decide_eq_true_eq]
      omega
/-- What the two ends are, of the values seen so far. -/
def BndI (S : List S39) (a b : S39) : Prop := (S = [] → a = z39 ∧ b = z39) ∧ (S ≠ [] → a ∈ S ∧ b ∈ S) ∧ (∀ x ∈ S, lessV x a = false ∧ lessV b x = false) ∧ (∀ x ∈ S, x.f0 ≠ 0)
theorem BndI.step {S : List S39} {a b v : S39} (h : BndI S a b) (hv : v.f0 ≠ 0) : BndI (S ++ [v]) (bLo a v) (bHi b v) := by
  obtain ⟨h1, h2, h3, h4⟩ := h
  have e1 : z39.f0 = 0 := rfl
  unfold bLo bHi
  rw [if_neg hv, if_neg hv]
  by_cases hS : S = []
  · obtain ⟨ha, hb⟩ := h1 hS
    subst hS ha hb
    rw [if_pos e1, if_pos e1]
    refine ⟨fun h => by simp at h, fun _ => ⟨by simp, by simp⟩, fun x hx => ?_, fun x hx => ?_⟩
    · simp at hx
      rw [hx, lessV_self]
      exact ⟨rfl, rfl⟩
    · simp at hx
      rw [hx]
      exact hv
  · obtain ⟨ha, hb⟩ := h2 hS
    have ha0 := h4 a ha
    have hb0 := h4 b hb
    rw [if_neg ha0, if_neg hb0]
    refine ⟨fun h => by simp at h, fun _ => ⟨?_, ?_⟩, fun x hx => ⟨?_, ?_⟩, fun x hx => ?_⟩
    · split
      · simp
      · simp [ha]
    · split
      · simp
      · simp [hb]
    · rcases List.mem_append.mp hx with hx | hx
      · have hxa := (h3 x hx).1
        split
        · rename_i hl
          rw [Bool.eq_false_iff]
          intro hc
          rw [lessV_trans x v a hc hl] at hxa
          cases hxa
        · exact hxa
      · simp at hx
        rw [hx]
        split
        · exact lessV_self v
        · rename_i hl
          exact Bool.eq_false_iff.mpr hl
    · rcases List.mem_append.mp hx with hx | hx
      · have hxb := (h3 x hx).2
        split
        · rename_i hl
          rw [Bool.eq_false_iff]
          intro hc
          rw [lessV_trans b v x hl hc] at hxb
          cases hxb
        · exact hxb
      · simp at hx
        rw [hx]
        split
        · exact lessV_self v
        · rename_i hl
          exact Bool.eq_false_iff.mpr hl
    · rcases List.mem_append.mp hx with hx | hx
      · exact h4 x hx
      · simp at hx
        rw [hx]
        exact hv
theorem bnds_inv : ∀ (t S : List S39) (a b : S39), (∀ x ∈ t, x.f0 ≠ 0) → BndI S a b → BndI (S ++ t) (bnds t a b).1 (bnds t a b).2 := by
  intro t
  induction t with
  | nil => intro S a b _ h; rw [List.append_nil]; exact h
  | cons v t ih =>
    intro S a b ht h
    have := ih (S ++ [v]) _ _ (fun x hx => ht x (by simp [hx])) (h.step (ht v (by simp)))
    rw [List.append_assoc] at this
    exact this
theorem bnds_lies (l : List S39) : BndI (marksOf l) (bnds l z39 z39).1 (bnds l z39 z39).2 := by
  rw [bnds_marks]
  have h0 : BndI [] z39 z39 := by
    unfold BndI
    refine ⟨fun _ => ⟨rfl, rfl⟩, fun h => absurd rfl h, ?_, ?_⟩
    · intro x hx; cases hx
    · intro x hx; cases hx
  have := bnds_inv (marksOf l) [] z39 z39 (marks_ne l) h0
  rw [List.nil_append] at this
  exact this
def eqV (x y : S39) : Bool := x.f0 == y.f0 && (x.f1 == y.f1 && (x.f2.toList == y.f2.toList))
theorem eqV_self (x : S39) : eqV x x = true := by simp [eqV]
theorem marks_mem (l : List S39) (x : S39) : x ∈ marksOf l ↔ x ∈ l ∧ x.f0 ≠ 0 := by
  unfold marksOf
  rw [List.mem_filter]
  simp [nulV]
theorem lies_j4 (k : Nat) (l : List S39) (hl : l.length ≤ 500) (hok : ∀ x ∈ l, okM x) (a b : S39) (hab : bnds l z39 z39 = (a, b)) (m : Nat) (hm : m ≤ l.length) (hk : 1100 ≤ k) :
    tidelinelaw06_ColumnLies.j4 (k + 1) l true true (m : Int) a.f0 a.f1 a.f2 b.f0 b.f1 b.f2 = some true := by
  have hA := bnds_lies l
  rw [hab] at hA
  have hC := bnds_lies (l.take m)
  have hb := bounds_f (l.take m) (by rw [List.length_take]; omega) (fun x hx => hok x (List.mem_of_mem_take hx)) k (by rw [List.length_take]; omega)
  obtain ⟨c, d, hcd⟩ : ∃ c d, bnds (l.take m) z39 z39 = (c, d) := ⟨_, _, rfl⟩
  rw [hcd] at hC hb
  rw [tidelinelaw06_ColumnLies.j4, if_pos (by omega), if_pos (by omega), Int.toNat_natCast, hb, Option.bind_some, if_pos rfl, if_pos rfl]
  unfold fl6
  dsimp only
  by_cases h0 : c.f0 = 0
  · rw [if_pos h0]; rfl
  · have hne : marksOf (l.take m) ≠ [] := by
      intro h
      obtain ⟨e, _⟩ := hC.1 h
      exact h0 (by have e' : c = z39 := e; rw [e']; rfl)
    obtain ⟨hc, hd⟩ := hC.2.1 hne
    have hsub : ∀ x ∈ marksOf (l.take m), x ∈ marksOf l := fun x hx => by
      rw [marks_mem] at hx ⊢
      exact ⟨List.mem_of_mem_take hx.1, hx.2⟩
    have h1 := (hA.2.2.1 c (hsub c hc)).1
    have h2 := (hA.2.2.1 d (hsub d hd)).2
    rw [if_neg h0, refLess c a, Option.bind_some, h1, if_neg (by decide), refLess b d, Option.bind_some, h2, if_neg (by decide)]
    rfl
theorem lies_l0 (l : List S39) (cut : Int) (hl : l.length ≤ 500) (hok : ∀ x ∈ l, okM x) (hc1 : -9223372036854775808 ≤ cut) (hc2 : cut ≤ 9223372036854775807) (a b : S39) (hab : bnds l z39 z39 = (a, b)) : ∀ (d k i : Nat) (p q : Bool), i + d = l.length → 3 * d + 1110 ≤ k → p = (marksOf (l.take i)).any (fun x => eqV x a) → q = (marksOf (l.take i)).any (fun x => eqV x b) →
    tidelinelaw06_ColumnLies.l0 k l cut p q ((marksOf (l.take i)).length : Int) (i : Int) a.f0 a.f1 a.f2 b.f0 b.f1 b.f2 = some true := by
  have hA := bnds_lies l
  rw [hab] at hA
  intro d
  induction d with
  | zero =>
    intro k i p q hi hk hp hq
    obtain ⟨k, rfl⟩ : ∃ j, k = j + 2 := ⟨k - 2, by omega⟩
    obtain rfl : i = l.length := by omega
    rw [List.take_length] at hp hq ⊢
    rw [tidelinelaw06_ColumnLies.l0, if_neg (by omega)]
    by_cases h0 : marksOf l = []
    · obtain ⟨ea, eb⟩ := hA.1 h0
      dsimp only at ea eb
      rw [h0, ea, eb, if_pos (by rfl)]
      have e2 : z39.f2.toList = [] := by decide +kernel
      have e0 : z39.f0 = 0 := rfl
      have e1 : z39.f1 = 0 := rfl
      rw [e0, e1, e2, if_pos (by decide), if_pos (by decide)]
      rfl
    · have hlen : 0 < (marksOf l).length := List.length_pos_iff.mpr h0
      have hml := marks_le l
      obtain ⟨ha, hb⟩ := hA.2.1 h0
      have hp' : p = true := by rw [hp, List.any_eq_true]; exact ⟨a, ha, eqV_self a⟩
      have hq' : q = true := by rw [hq, List.any_eq_true]; exact ⟨b, hb, eqV_self b⟩
      rw [hp', hq', if_neg (by omega), w64s l.length (by omega), if_neg (by omega)]
      have hpos : (0 : Int) < ((l.length + 1 : Nat) : Int) := by omega
      have ht1 := Int.tmod_lt_of_pos cut hpos
      have ht2 := Int.lt_tmod_of_pos cut hpos
      by_cases hn : Int.tmod cut ((l.length + 1 : Nat) : Int) < 0
      · obtain ⟨t, ht⟩ : ∃ t : Int, t = Int.tmod cut ((l.length + 1 : Nat) : Int) := ⟨_, rfl⟩
        rw [← ht] at ht1 ht2 hn ⊢
        have e : wrap64 (wrap64 (t + (l.length : Int)) + 1) = (((t + (l.length : Int) + 1).toNat : Nat) : Int) := by
          rw [w64 (x := t + (l.length : Int)) (by omega) (by omega), w64 (by omega) (by omega)]
          omega
        rw [if_pos hn, e]
        exact lies_j4 k l hl hok a b hab _ (by omega) (by omega)
      · obtain ⟨t, ht⟩ : ∃ t : Int, t = Int.tmod cut ((l.length + 1 : Nat) : Int) := ⟨_, rfl⟩
        rw [← ht] at ht1 ht2 hn ⊢
        rw [if_neg hn, show t = ((t.toNat : Nat) : Int) by omega]
        exact lies_j4 k l hl hok a b hab _ (by omega) (by omega)
  | succ d ih =>
    intro k i p q hi hk hp hq
    obtain ⟨k, rfl⟩ : ∃ j, k = j + 3 := ⟨k - 3, by omega⟩
    have hlt : i < l.length := by omega
    have hml := marks_le (l.take i)
    have htl := List.length_take_le i l
    have em : marksOf (l.take (i + 1)) = marksOf (l.take i) ++ (if (rd_T39 l (i : Int)).f0 = 0 then [] else [rd_T39 l (i : Int)]) := by
      rw [List.take_succ_eq_append_getElem hlt, ← rdT_get hlt]
      unfold marksOf
      rw [List.filter_append]
      congr 1
      by_cases h : (rd_T39 l (i : Int)).f0 = 0
      · rw [if_pos h]; simp [nulV, h]
      · rw [if_neg h]; simp [nulV, h]
    rw [tidelinelaw06_ColumnLies.l0, if_pos (by omega), if_pos (by omega), w64s i (by omega)]
    by_cases h : (rd_T39 l (i : Int)).f0 = 0
    · rw [if_pos h, List.append_nil] at em
      have hih := ih (k + 2) (i + 1) p q (by omega) (by omega) (by rw [em]; exact hp) (by rw [em]; exact hq)
      rw [em] at hih
      rw [if_pos h]
      exact hih
    · rw [if_neg h] at em
      obtain ⟨x, hx⟩ : ∃ x, x = rd_T39 l (i : Int) := ⟨_, rfl⟩
      have hxm : x ∈ marksOf l := by rw [marks_mem, hx]; exact ⟨rdT_mem hlt, h⟩
      obtain ⟨g1, g2⟩ := hA.2.2.1 x hxm
      dsimp only at g1 g2
      rw [← hx] at em h ⊢
      have hih := ih k (i + 1) (p || eqV x a) (q || eqV x b) (by omega) (by omega) (by rw [em, hp]; simp) (by rw [em, hq]; simp)
      rw [em, List.length_append, List.length_singleton] at hih
      have hj3 : ∀ p' q', p' = (p || eqV x a) → q' = (q || eqV x b) → tidelinelaw06_ColumnLies.j3 (k + 1) l cut p' q' (((marksOf (l.take i)).length + 1 : Nat) : Int) (i : Int) a.f0 a.f1 a.f2 b.f0 b.f1 b.f2 = some true := by
        intro p' q' hp' hq'
        rw [tidelinelaw06_ColumnLies.j3, if_pos (by omega), if_pos (by omega), ← hx, refLess x a, Option.bind_some, g1, if_neg (by decide), refLess b x, Option.bind_some, g2, if_neg (by decide), w64s i (by omega), hp', hq']
        exact hih
      have hj2 : ∀ p', p' = (p || eqV x a) → tidelinelaw06_ColumnLies.j2 (k + 2) l cut p' q (((marksOf (l.take i)).length + 1 : Nat) : Int) (i : Int) a.f0 a.f1 a.f2 b.f0 b.f1 b.f2 = some true := by
        intro p' hp'
        rw [tidelinelaw06_ColumnLies.j2]
        cases q with
        | true => rw [if_pos rfl]; exact hj3 _ _ hp' rfl
        | false => rw [if_neg (by decide), if_pos (by omega), if_pos (by omega), ← hx]; exact hj3 _ _ hp' rfl
      rw [if_neg h, w64s _ (by omega)]
      cases p with
      | true => rw [if_pos rfl]; exact hj2 _ rfl
      | false => rw [if_neg (by decide)]; exact hj2 _ rfl
theorem colLies_f (kind cut : Int) (l : List S39) (hw : ∀ x ∈ l, okVal x) (hc1 : -9223372036854775808 ≤ cut) (hc2 : cut ≤ 9223372036854775807) : tidelinelaw06_ColumnLies.f 5001 kind l cut = some true := by
  unfold tidelinelaw06_ColumnLies.f
  obtain ⟨r, hr, hp⟩ := long6_k l 5001 (by decide)
  rw [hr, Option.bind_some]
  cases r with
  | true => rw [if_pos rfl, tidelinelaw06_ColumnLies.j0, if_pos rfl]
  | false =>
    obtain ⟨h1, h2⟩ := hp rfl
    have h0 : ∀ x ∈ l, 0 ≤ x.f0 := fun x hx => (hw x hx).1.1
    have hn := okNum_of l hw
    rw [if_neg (by decide), refCol_f kind l (by omega) h0 5001 (by omega), Option.bind_some, tidelinelaw06_ColumnLies.j0]
    by_cases hf : kindB kind = true ∧ l.length ≤ 65536 ∧ fitCol kind l = true
    · have hok : ∀ x ∈ l, okM x := fun x hx => by
        have h3 := hf.2.2
        unfold fitCol at h3
        rw [List.all_eq_true] at h3 hn
        have h4 := h3 x hx
        unfold rowMay at h4
        rw [Bool.and_eq_true] at h4
        exact ⟨h4.1, hn x hx, by have := h2 x hx; omega⟩
      obtain ⟨a, b, hab⟩ : ∃ a b, bnds l z39 z39 = (a, b) := ⟨_, _, rfl⟩
      have := lies_l0 l cut h1 hok hc1 hc2 a b hab l.length 5000 0 false false (by omega) (by omega) (by simp [marksOf]) (by simp [marksOf])
      rw [decide_eq_true hf, if_neg (by decide), bounds_f l (by omega) hok 5000 (by omega), Option.bind_some, hab]
      exact this
    · rw [decide_eq_false hf, if_pos (by decide)]
theorem i64_of_wf23 {n : Int} (h : (Lit.int .i64 n).wf = true) : -9223372036854775808 ≤ n ∧ n ≤ 9223372036854775807 := by
  have hmin : IntKind.i64.min = -9223372036854775808 := rfl
  have hmax : IntKind.i64.max = 9223372036854775807 := rfl
  simp only [Lit.wf, Bool.and_eq_true, decide_eq_true_eq] at h
  omega
theorem walk_ColumnLies (a0 : Int) (A1 : Option Addr) (c1 : Nat) (l1 : List S39) (a2 : Int) (w : World) (hw0 : (Lit.int .u8 a0).wf = true)
    (hr1 : Kd.C k39 w A1 l1.length l1) (hc1 : l1.length ≤ c1) (hm1 : l1.length ≤ maxLen) (hw1 : ∀ x ∈ l1, okVal x) (hw2 : (Lit.int .i64 a2).wf = true) :
    Calls Try.prog 23 #[.int .u8 a0, .slice A1 l1.length c1, .int .i64 a2] w fun e w' => e = .returned (.bool true) ∧ Below w.heap.size w w' :=
  tidelinelaw06_ColumnLies.calls _ a0 A1 c1 l1 a2 true w hr1 hc1 (colLies_f a0 a2 l1 hw1 (i64_of_wf23 hw2).1 (i64_of_wf23 hw2).2)
end Go.Proofs.Ytlmcefhpnfoahaa.P
end

section
/- The row of the law ColumnLies: at every input it answers true, and each argument reads behind the call as it did. No condition. -/
namespace Go.Proofs.Ytlmcefhpnfoahaa.columnLies
open Go.ChangeShapes Go.WideShapes Go.ChangeAt Go.RowKit Go.Proofs.Ytlmcefhpnfoahaa.P
open Go.ChangeMaps (open_string shut_string)
set_option linter.unusedVariables false
theorem own : ownKnob Try.prog.godebug = none := by kernel_rfl
theorem laidOut : laidOutB Try.prog = true := by kernel_rfl
set_option maxRecDepth 100000 in
theorem lifted (os : Os) (started : os.Started) (H : Type) (enc : TypeId × Value → H) :
    ReturnsInHanded {} Try.checked os 23 .any (Rows.columnLiesSpec.pre6 enc Try.prog Try.f23 Rows.columnLiesRow.domain false) (Rows.columnLiesSpec.post enc Try.prog Try.f23 false true false false) := by
  refine returnsInHanded_of_change_sized (C := Try.checked) own started (by kernel_rfl) Try.func23
    (ChangeSpec.witness6 (enc := enc) (C := Try.checked) false ⟨#[], #[.int .u8 0, .slice none 0 0, .int .i64 0], []⟩ 8 (by kernel_rfl) (by kernel_rfl) (by kernel_rfl) (by kernel_rfl)) ?_
  intro W base args ds gs before hval0 hW hcnd hsz0 _
  have hval : ∀ (j : Nat) t v, Try.f23.params[j]? = some t → args[j]? = some v → Value.okWide Try.prog W .any base t v := hval0
  have hW' := hW
  obtain ⟨p, q, hA0, hV, rfl, hfz, hnd⟩ := hW
  have hA : DataW.TrodAll enc Try.prog W 0 (fun _ => true) true Try.f23.params.toList args.toList ds p := hA0
  rw [Try.params23] at hA hval
  obtain ⟨v0, vs0, d0, ds0, p0, q0, hargs, rfl, rfl, h0, r0⟩ := trodAll_cons hA
  obtain ⟨v1, vs1, d1, ds1, p1, q1, rfl, rfl, rfl, h1, r1⟩ := trodAll_cons r0
  obtain ⟨v2, vs2, d2, ds2, p2, q2, rfl, rfl, rfl, h2, r2⟩ := trodAll_cons r1
  obtain ⟨rfl, rfl, rfl⟩ := trodAll_nil r2
  obtain rfl : args = #[v0, v1, v2] := by cases args; simp_all
  obtain ⟨rfl, rfl⟩ := trodVars_none hV
  obtain ⟨a0, rfl, rfl, rfl, w0⟩ := open_int Try.underlying5 (hval 0 5 v0 rfl rfl) h0
  obtain ⟨a1, len1, cap1, rfl⟩ := okWide_slice Try.underlying23 (hval 1 23 v1 rfl rfl)
  have k1 := h1
  have lt1 : ∀ x ∈ p1, x.block < W.heap.size := by obtain ⟨m, hm⟩ := k1; exact DataW.trod_lt m _ _ _ hm
  obtain ⟨l1, rfl, y1, z1, m1, w1⟩ := open_arg z39 Try.underlying23 (by kernel_rfl) tells_val h1
  obtain ⟨a2, rfl, rfl, rfl, w2⟩ := open_int Try.underlying3 (hval 2 3 v2 rfl rfl) h2
  clear hA0 hval0 hsz0
  refine (walk_ColumnLies a0 a1 cap1 l1 a2 W w0 z1 y1 m1 w1 w2).mono fun e W' ⟨he, bel⟩ => ?_
  subst he
  exact ⟨_, rfl, _, _, _, [], _, [], hW', trodAll_mk1 (shut_bool Try.underlying4 _), (trodAll_cons_mk (shut_int Try.underlying5 w0) (trodAll_cons_mk (Below.trod laidOut (by kernel_rfl) (of_decide_eq_true (by kernel_rfl)) k1 bel lt1) (trodAll_cons_mk (shut_int Try.underlying3 w2) trodAll_mk0))), rfl, bel.frame _, fun h => by cases h⟩
theorem k_wf : Rows.columnLiesRow.wf (OpenSpec.ofChange Rows.columnLiesSpec) = true := by kernel_rfl
theorem k_params : Try.f23.params.all (Try.prog.readableRec ·) = true := by kernel_rfl
theorem k_tie : namedTie Try.prog Rows.columnLiesRow.named Rows.columnLiesSpec.vars = true := by kernel_rfl
theorem k_inPlace : (Rows.columnLiesRow.inPlace == Try.prog.inPlace 23) = true := by kernel_rfl
theorem k_unfollowed : (Rows.columnLiesRow.unfollowed == Try.prog.unfollowed 23) = true := by kernel_rfl
theorem k_recurses : (Rows.columnLiesRow.recurses == Try.prog.recurses 23) = true := by kernel_rfl
theorem k_named : (Rows.columnLiesRow.named == Try.prog.varsNamed 23) = true := by kernel_rfl
theorem k_maps : (Rows.columnLiesRow.maps == (Try.f23.params.toList ++ Rows.columnLiesSpec.plain.varTypes Try.prog).any (Try.prog.mapsRec ·)) = true := by kernel_rfl
theorem k_ifaces : (Rows.columnLiesRow.ifaces == (Try.f23.params.toList ++ Rows.columnLiesSpec.plain.varTypes Try.prog).any (Try.prog.ifacesRec ·)) = true := by kernel_rfl
theorem k_mapsOut : (Rows.columnLiesRow.mapsOut == Try.prog.mapsAmong Try.f23.resultTypes.toList) = true := by kernel_rfl
theorem k_loops : (Rows.columnLiesRow.loops == (Try.f23.params.toList ++ Rows.columnLiesSpec.plain.varTypes Try.prog).any (Try.prog.loopsFrom ·)) = true := by kernel_rfl
theorem k_wideKeys : (Rows.columnLiesRow.wideKeys == ((Try.f23.params.toList ++ Rows.columnLiesSpec.plain.varTypes Try.prog) ++ Try.f23.resultTypes.toList).any (Try.prog.wideKeysFrom ·)) = true := by kernel_rfl
theorem k_results : Try.f23.resultTypes.all (fun t => Try.prog.readableRec t && decide (t < Try.prog.types.size)) = true := by kernel_rfl
theorem k_ifacesOut : (Rows.columnLiesRow.ifacesOut == Try.f23.resultTypes.toList.any (Try.prog.ifacesRec ·)) = true := by kernel_rfl
theorem k_loopsOut : (Rows.columnLiesRow.loopsOut == Try.f23.resultTypes.toList.any (Try.prog.loopsFrom ·)) = true := by kernel_rfl
theorem k_veiled : (Rows.columnLiesRow.veiled == ((Try.f23.params.toList ++ Rows.columnLiesSpec.plain.varTypes Try.prog) ++ Try.f23.resultTypes.toList).any (Try.prog.veiledRec ·)) = true := by kernel_rfl
theorem k_fits : Rows.columnLiesRow.veiledFits Try.prog Try.f23.params.toList ((Try.f23.params.toList ++ Rows.columnLiesSpec.plain.varTypes Try.prog) ++ Try.f23.resultTypes.toList) = true := by kernel_rfl
theorem k_kinds : (Rows.columnLiesRow.kinds == (if Rows.columnLiesRow.domain.isEmpty then [] else Try.f23.params.toList.map fun t => match Try.prog.underlying t with | some (.int k) => some k | _ => none)) = true := by kernel_rfl
theorem k_pins : (Rows.columnLiesRow.pinned == Rows.columnLiesRow.pinnedBy) = true := by kernel_rfl
theorem k_stops : (Rows.columnLiesRow.stops == []) = true := by kernel_rfl
theorem k_knobs : (Rows.columnLiesRow.knobs == []) = true := by kernel_rfl
theorem k_vars : Rows.columnLiesSpec.vars.all (Try.prog.varReadable ·) = true := by kernel_rfl
theorem k_plain : Rows.columnLiesRow.plainKeys = true := by kernel_rfl
theorem k_short : Rows.columnLiesRow.shortTexts.isNone = true := by kernel_rfl
theorem k_lift : Rows.columnLiesRow.lifted = false := by kernel_rfl
theorem k_make : Rows.columnLiesRow.make = .cut := by kernel_rfl
theorem k_func : Try.prog.funcNamed Rows.columnLiesRow.func = some 23 := by kernel_rfl
theorem k_plain2 : (Rows.columnLiesRow.plainKeys == Try.prog.plainKeys) = (Rows.columnLiesRow.plainKeys == true) := by rw [fact_plainKeys]
theorem k_lift2 : (Rows.columnLiesRow.lifted == Try.prog.liftsFinal) = (Rows.columnLiesRow.lifted == false) := by rw [fact_liftsFinal]
theorem k_make2 : (Try.prog.make == some Rows.columnLiesRow.make) = true := by rw [fact_make, k_make]; rfl
set_option maxRecDepth 100000 in
theorem closed : joinedFacts Try.prog 23 Try.f23 Rows.columnLiesSpec Rows.columnLiesRow = true :=
  joined_of Try.prog 23 Try.f23 Rows.columnLiesSpec Rows.columnLiesRow k_wf fact_laidOut fact_mapsRowed k_params k_tie k_stops fact_stops k_knobs fact_stopKnobs k_inPlace k_unfollowed k_recurses k_named k_maps k_ifaces k_mapsOut k_loops k_wideKeys k_vars k_results k_ifacesOut k_loopsOut k_plain2 k_plain k_short fact_stopsHeard fact_mayEnter k_lift2 k_lift k_make2 k_kinds k_pins k_veiled k_fits
theorem over : Rows.columnLiesRow.holds Try.pinned (OpenSpec.ofChange Rows.columnLiesSpec) :=
  OpenClaim.holds_of_wide 23 Try.f23 rfl rfl rfl rfl rfl rfl rfl ⟨rfl, rfl, rfl, rfl, rfl⟩ rfl rfl rfl rfl rfl k_func Try.func23 closed
    (of_decide_eq_true (by kernel_rfl)) (by unfold Func.isWrapper; first | (rw [if_pos (by decide +kernel)]; kernel_rfl) | (rw [if_neg (by decide +kernel)]; exact ⟨rfl, rfl⟩))
    (fun os started H enc _ => lifted os started H enc)
theorem proved : Rows.ColumnLiesSaid := over
#print axioms proved
end Go.Proofs.Ytlmcefhpnfoahaa.columnLies
namespace Go.Proofs.Ytlmcefhpnfoahaa
/-- The row, under a short name, for the claim. -/
theorem columnLies_holds : Rows.ColumnLiesSaid := columnLies.proved
end Go.Proofs.Ytlmcefhpnfoahaa
end
