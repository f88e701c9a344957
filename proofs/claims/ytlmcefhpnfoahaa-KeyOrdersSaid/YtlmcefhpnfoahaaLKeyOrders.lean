/- The row of the law KeyOrders: at every input it answers true, and each argument reads behind the call as it did. No condition. -/
import Derived.Test.YtlmcefhpnfoahaaRows
import Derived.Test.YtlmcefhpnfoahaaKF
import Derived.Test.YtlmcefhpnfoahaaKR
import Derived.Test.YtlmcefhpnfoahaaV4
import Derived.WalkKit
import Derived.ProofKit
import Derived.OpenShut
import Derived.ShutString
import Derived.ChangeOld
import Derived.Below
import Derived.SizedLaws
namespace Go.Proofs.Ytlmcefhpnfoahaa.keyOrders
open Go.ChangeShapes Go.WideShapes Go.ChangeAt Go.RowKit Go.Proofs.Ytlmcefhpnfoahaa.P
open Go.ChangeMaps (open_string shut_string)
set_option linter.unusedVariables false
theorem own : ownKnob Try.prog.godebug = none := by kernel_rfl
theorem laidOut : laidOutB Try.prog = true := by kernel_rfl
set_option maxRecDepth 100000 in
theorem lifted (os : Os) (started : os.Started) (H : Type) (enc : TypeId × Value → H) :
    ReturnsInHanded {} Try.checked os 4 .any (Rows.keyOrdersSpec.pre6 enc Try.prog Try.f4 Rows.keyOrdersRow.domain false) (Rows.keyOrdersSpec.post enc Try.prog Try.f4 false true false false) := by
  refine returnsInHanded_of_change_sized (C := Try.checked) own started (by kernel_rfl) Try.func4
    (ChangeSpec.witness6 (enc := enc) (C := Try.checked) false ⟨#[], #[.slice none 0 0, .slice none 0 0], []⟩ 8 (by kernel_rfl) (by kernel_rfl) (by kernel_rfl) (by kernel_rfl)) ?_
  intro W base args ds gs before hval0 hW hcnd hsz0 _
  have hval : ∀ (j : Nat) t v, Try.f4.params[j]? = some t → args[j]? = some v → Value.okWide Try.prog W .any base t v := hval0
  have hW' := hW
  obtain ⟨p, q, hA0, hV, rfl, hfz, hnd⟩ := hW
  have hA : DataW.TrodAll enc Try.prog W 0 (fun _ => true) true Try.f4.params.toList args.toList ds p := hA0
  rw [Try.params4] at hA hval
  obtain ⟨v0, vs0, d0, ds0, p0, q0, hargs, rfl, rfl, h0, r0⟩ := trodAll_cons hA
  obtain ⟨v1, vs1, d1, ds1, p1, q1, rfl, rfl, rfl, h1, r1⟩ := trodAll_cons r0
  obtain ⟨rfl, rfl, rfl⟩ := trodAll_nil r1
  obtain rfl : args = #[v0, v1] := by cases args; simp_all
  obtain ⟨rfl, rfl⟩ := trodVars_none hV
  obtain ⟨a0, len0, cap0, rfl⟩ := okWide_slice Try.underlying23 (hval 0 23 v0 rfl rfl)
  have k0 := h0
  have lt0 : ∀ x ∈ p0, x.block < W.heap.size := by obtain ⟨m, hm⟩ := k0; exact DataW.trod_lt m _ _ _ hm
  obtain ⟨l0, rfl, y0, z0, m0, w0⟩ := open_arg z39 Try.underlying23 (by kernel_rfl) tells_val h0
  obtain ⟨a1, len1, cap1, rfl⟩ := okWide_slice Try.underlying23 (hval 1 23 v1 rfl rfl)
  have k1 := h1
  have lt1 : ∀ x ∈ p1, x.block < W.heap.size := by obtain ⟨m, hm⟩ := k1; exact DataW.trod_lt m _ _ _ hm
  obtain ⟨l1, rfl, y1, z1, m1, w1⟩ := open_arg z39 Try.underlying23 (by kernel_rfl) tells_val h1
  clear hA0 hval0 hsz0
  refine (walk_KeyOrders a0 cap0 l0 a1 cap1 l1 W z0 y0 m0 w0 z1 y1 m1 w1).mono fun e W' ⟨he, bel⟩ => ?_
  subst he
  exact ⟨_, rfl, _, _, _, [], _, [], hW', trodAll_mk1 (shut_bool Try.underlying4 _), (trodAll_cons_mk (Below.trod laidOut (by kernel_rfl) (of_decide_eq_true (by kernel_rfl)) k0 bel lt0) (trodAll_cons_mk (Below.trod laidOut (by kernel_rfl) (of_decide_eq_true (by kernel_rfl)) k1 bel lt1) trodAll_mk0)), rfl, bel.frame _, fun h => by cases h⟩
theorem k_wf : Rows.keyOrdersRow.wf (OpenSpec.ofChange Rows.keyOrdersSpec) = true := by kernel_rfl
theorem k_params : Try.f4.params.all (Try.prog.readableRec ·) = true := by kernel_rfl
theorem k_tie : namedTie Try.prog Rows.keyOrdersRow.named Rows.keyOrdersSpec.vars = true := by kernel_rfl
theorem k_inPlace : (Rows.keyOrdersRow.inPlace == Try.prog.inPlace 4) = true := by kernel_rfl
theorem k_unfollowed : (Rows.keyOrdersRow.unfollowed == Try.prog.unfollowed 4) = true := by kernel_rfl
theorem k_recurses : (Rows.keyOrdersRow.recurses == Try.prog.recurses 4) = true := by kernel_rfl
theorem k_named : (Rows.keyOrdersRow.named == Try.prog.varsNamed 4) = true := by kernel_rfl
theorem k_maps : (Rows.keyOrdersRow.maps == (Try.f4.params.toList ++ Rows.keyOrdersSpec.plain.varTypes Try.prog).any (Try.prog.mapsRec ·)) = true := by kernel_rfl
theorem k_ifaces : (Rows.keyOrdersRow.ifaces == (Try.f4.params.toList ++ Rows.keyOrdersSpec.plain.varTypes Try.prog).any (Try.prog.ifacesRec ·)) = true := by kernel_rfl
theorem k_mapsOut : (Rows.keyOrdersRow.mapsOut == Try.prog.mapsAmong Try.f4.resultTypes.toList) = true := by kernel_rfl
theorem k_loops : (Rows.keyOrdersRow.loops == (Try.f4.params.toList ++ Rows.keyOrdersSpec.plain.varTypes Try.prog).any (Try.prog.loopsFrom ·)) = true := by kernel_rfl
theorem k_wideKeys : (Rows.keyOrdersRow.wideKeys == ((Try.f4.params.toList ++ Rows.keyOrdersSpec.plain.varTypes Try.prog) ++ Try.f4.resultTypes.toList).any (Try.prog.wideKeysFrom ·)) = true := by kernel_rfl
theorem k_results : Try.f4.resultTypes.all (fun t => Try.prog.readableRec t && decide (t < Try.prog.types.size)) = true := by kernel_rfl
theorem k_ifacesOut : (Rows.keyOrdersRow.ifacesOut == Try.f4.resultTypes.toList.any (Try.prog.ifacesRec ·)) = true := by kernel_rfl
theorem k_loopsOut : (Rows.keyOrdersRow.loopsOut == Try.f4.resultTypes.toList.any (Try.prog.loopsFrom ·)) = true := by kernel_rfl
theorem k_veiled : (Rows.keyOrdersRow.veiled == ((Try.f4.params.toList ++ Rows.keyOrdersSpec.plain.varTypes Try.prog) ++ Try.f4.resultTypes.toList).any (Try.prog.veiledRec ·)) = true := by kernel_rfl
theorem k_fits : Rows.keyOrdersRow.veiledFits Try.prog Try.f4.params.toList ((Try.f4.params.toList ++ Rows.keyOrdersSpec.plain.varTypes Try.prog) ++ Try.f4.resultTypes.toList) = true := by kernel_rfl
theorem k_kinds : (Rows.keyOrdersRow.kinds == (if Rows.keyOrdersRow.domain.isEmpty then [] else Try.f4.params.toList.map fun t => match Try.prog.underlying t with | some (.int k) => some k | _ => none)) = true := by kernel_rfl
theorem k_pins : (Rows.keyOrdersRow.pinned == Rows.keyOrdersRow.pinnedBy) = true := by kernel_rfl
theorem k_stops : (Rows.keyOrdersRow.stops == []) = true := by kernel_rfl
theorem k_knobs : (Rows.keyOrdersRow.knobs == []) = true := by kernel_rfl
theorem k_vars : Rows.keyOrdersSpec.vars.all (Try.prog.varReadable ·) = true := by kernel_rfl
theorem k_plain : Rows.keyOrdersRow.plainKeys = true := by kernel_rfl
theorem k_short : Rows.keyOrdersRow.shortTexts.isNone = true := by kernel_rfl
theorem k_lift : Rows.keyOrdersRow.lifted = false := by kernel_rfl
theorem k_make : Rows.keyOrdersRow.make = .cut := by kernel_rfl
theorem k_func : Try.prog.funcNamed Rows.keyOrdersRow.func = some 4 := by kernel_rfl
theorem k_plain2 : (Rows.keyOrdersRow.plainKeys == Try.prog.plainKeys) = (Rows.keyOrdersRow.plainKeys == true) := by rw [fact_plainKeys]
theorem k_lift2 : (Rows.keyOrdersRow.lifted == Try.prog.liftsFinal) = (Rows.keyOrdersRow.lifted == false) := by rw [fact_liftsFinal]
theorem k_make2 : (Try.prog.make == some Rows.keyOrdersRow.make) = true := by rw [fact_make, k_make]; rfl
set_option maxRecDepth 100000 in
theorem closed : joinedFacts Try.prog 4 Try.f4 Rows.keyOrdersSpec Rows.keyOrdersRow = true :=
  joined_of Try.prog 4 Try.f4 Rows.keyOrdersSpec Rows.keyOrdersRow k_wf fact_laidOut fact_mapsRowed k_params k_tie k_stops fact_stops k_knobs fact_stopKnobs k_inPlace k_unfollowed k_recurses k_named k_maps k_ifaces k_mapsOut k_loops k_wideKeys k_vars k_results k_ifacesOut k_loopsOut k_plain2 k_plain k_short fact_stopsHeard fact_mayEnter k_lift2 k_lift k_make2 k_kinds k_pins k_veiled k_fits
theorem over : Rows.keyOrdersRow.holds Try.pinned (OpenSpec.ofChange Rows.keyOrdersSpec) :=
  OpenClaim.holds_of_wide 4 Try.f4 rfl rfl rfl rfl rfl rfl rfl ⟨rfl, rfl, rfl, rfl, rfl⟩ rfl rfl rfl rfl rfl k_func Try.func4 closed
    (of_decide_eq_true (by kernel_rfl)) (by unfold Func.isWrapper; first | (rw [if_pos (by decide +kernel)]; kernel_rfl) | (rw [if_neg (by decide +kernel)]; exact ⟨rfl, rfl⟩))
    (fun os started H enc _ => lifted os started H enc)
theorem proved : Rows.KeyOrdersSaid := over
#print axioms proved
end Go.Proofs.Ytlmcefhpnfoahaa.keyOrders
namespace Go.Proofs.Ytlmcefhpnfoahaa
/-- The row, under a short name, for the claim. -/
theorem keyOrders_holds : Rows.KeyOrdersSaid := keyOrders.proved
end Go.Proofs.Ytlmcefhpnfoahaa
