/- The row of the law KeyKnown: at every input it answers true, and each argument reads behind the call as it did. No condition. -/
import Derived.Test.YtlmcefhpnfoahaaRows
import Derived.Test.YtlmcefhpnfoahaaKF
import Derived.Test.YtlmcefhpnfoahaaKR
import Derived.Test.YtlmcefhpnfoahaaV6
import Derived.WalkKit
import Derived.ProofKit
import Derived.OpenShut
import Derived.ShutString
import Derived.ChangeOld
import Derived.Below
import Derived.SizedLaws
namespace Go.Proofs.Ytlmcefhpnfoahaa.keyKnown
open Go.ChangeShapes Go.WideShapes Go.ChangeAt Go.RowKit Go.Proofs.Ytlmcefhpnfoahaa.P
open Go.ChangeMaps (open_string shut_string)
set_option linter.unusedVariables false
theorem own : ownKnob Try.prog.godebug = none := by kernel_rfl
theorem laidOut : laidOutB Try.prog = true := by kernel_rfl
set_option maxRecDepth 100000 in
theorem lifted (os : Os) (started : os.Started) (H : Type) (enc : TypeId × Value → H) :
    ReturnsInHanded {} Try.checked os 6 .any (Rows.keyKnownSpec.pre6 enc Try.prog Try.f6 Rows.keyKnownRow.domain false) (Rows.keyKnownSpec.post enc Try.prog Try.f6 false true false false) := by
  refine returnsInHanded_of_change_sized (C := Try.checked) own started (by kernel_rfl) Try.func6
    (ChangeSpec.witness6 (enc := enc) (C := Try.checked) false ⟨#[], #[], []⟩ 8 (by kernel_rfl) (by kernel_rfl) (by kernel_rfl) (by kernel_rfl)) ?_
  intro W base args ds gs before hval0 hW hcnd hsz0 _
  have hval : ∀ (j : Nat) t v, Try.f6.params[j]? = some t → args[j]? = some v → Value.okWide Try.prog W .any base t v := hval0
  have hW' := hW
  obtain ⟨p, q, hA0, hV, rfl, hfz, hnd⟩ := hW
  have hA : DataW.TrodAll enc Try.prog W 0 (fun _ => true) true Try.f6.params.toList args.toList ds p := hA0
  rw [Try.params6] at hA hval
  obtain ⟨rfl, rfl, rfl⟩ := trodAll_none hA
  obtain ⟨rfl, rfl⟩ := trodVars_none hV
  clear hA0 hval0 hsz0
  refine (walk_KeyKnown  W ).mono fun e W' ⟨he, bel⟩ => ?_
  subst he
  exact ⟨_, rfl, _, _, _, [], _, [], hW', trodAll_mk1 (shut_bool Try.underlying4 _), trodAll_mk0, rfl, bel.frame _, fun h => by cases h⟩
theorem k_wf : Rows.keyKnownRow.wf (OpenSpec.ofChange Rows.keyKnownSpec) = true := by kernel_rfl
theorem k_params : Try.f6.params.all (Try.prog.readableRec ·) = true := by kernel_rfl
theorem k_tie : namedTie Try.prog Rows.keyKnownRow.named Rows.keyKnownSpec.vars = true := by kernel_rfl
theorem k_inPlace : (Rows.keyKnownRow.inPlace == Try.prog.inPlace 6) = true := by kernel_rfl
theorem k_unfollowed : (Rows.keyKnownRow.unfollowed == Try.prog.unfollowed 6) = true := by kernel_rfl
theorem k_recurses : (Rows.keyKnownRow.recurses == Try.prog.recurses 6) = true := by kernel_rfl
theorem k_named : (Rows.keyKnownRow.named == Try.prog.varsNamed 6) = true := by kernel_rfl
theorem k_maps : (Rows.keyKnownRow.maps == (Try.f6.params.toList ++ Rows.keyKnownSpec.plain.varTypes Try.prog).any (Try.prog.mapsRec ·)) = true := by kernel_rfl
theorem k_ifaces : (Rows.keyKnownRow.ifaces == (Try.f6.params.toList ++ Rows.keyKnownSpec.plain.varTypes Try.prog).any (Try.prog.ifacesRec ·)) = true := by kernel_rfl
theorem k_mapsOut : (Rows.keyKnownRow.mapsOut == Try.prog.mapsAmong Try.f6.resultTypes.toList) = true := by kernel_rfl
theorem k_loops : (Rows.keyKnownRow.loops == (Try.f6.params.toList ++ Rows.keyKnownSpec.plain.varTypes Try.prog).any (Try.prog.loopsFrom ·)) = true := by kernel_rfl
theorem k_wideKeys : (Rows.keyKnownRow.wideKeys == ((Try.f6.params.toList ++ Rows.keyKnownSpec.plain.varTypes Try.prog) ++ Try.f6.resultTypes.toList).any (Try.prog.wideKeysFrom ·)) = true := by kernel_rfl
theorem k_results : Try.f6.resultTypes.all (fun t => Try.prog.readableRec t && decide (t < Try.prog.types.size)) = true := by kernel_rfl
theorem k_ifacesOut : (Rows.keyKnownRow.ifacesOut == Try.f6.resultTypes.toList.any (Try.prog.ifacesRec ·)) = true := by kernel_rfl
theorem k_loopsOut : (Rows.keyKnownRow.loopsOut == Try.f6.resultTypes.toList.any (Try.prog.loopsFrom ·)) = true := by kernel_rfl
theorem k_veiled : (Rows.keyKnownRow.veiled == ((Try.f6.params.toList ++ Rows.keyKnownSpec.plain.varTypes Try.prog) ++ Try.f6.resultTypes.toList).any (Try.prog.veiledRec ·)) = true := by kernel_rfl
theorem k_fits : Rows.keyKnownRow.veiledFits Try.prog Try.f6.params.toList ((Try.f6.params.toList ++ Rows.keyKnownSpec.plain.varTypes Try.prog) ++ Try.f6.resultTypes.toList) = true := by kernel_rfl
theorem k_kinds : (Rows.keyKnownRow.kinds == (if Rows.keyKnownRow.domain.isEmpty then [] else Try.f6.params.toList.map fun t => match Try.prog.underlying t with | some (.int k) => some k | _ => none)) = true := by kernel_rfl
theorem k_pins : (Rows.keyKnownRow.pinned == Rows.keyKnownRow.pinnedBy) = true := by kernel_rfl
theorem k_stops : (Rows.keyKnownRow.stops == []) = true := by kernel_rfl
theorem k_knobs : (Rows.keyKnownRow.knobs == []) = true := by kernel_rfl
theorem k_vars : Rows.keyKnownSpec.vars.all (Try.prog.varReadable ·) = true := by kernel_rfl
theorem k_plain : Rows.keyKnownRow.plainKeys = true := by kernel_rfl
theorem k_short : Rows.keyKnownRow.shortTexts.isNone = true := by kernel_rfl
theorem k_lift : Rows.keyKnownRow.lifted = false := by kernel_rfl
theorem k_make : Rows.keyKnownRow.make = .cut := by kernel_rfl
theorem k_func : Try.prog.funcNamed Rows.keyKnownRow.func = some 6 := by kernel_rfl
theorem k_plain2 : (Rows.keyKnownRow.plainKeys == Try.prog.plainKeys) = (Rows.keyKnownRow.plainKeys == true) := by rw [fact_plainKeys]
theorem k_lift2 : (Rows.keyKnownRow.lifted == Try.prog.liftsFinal) = (Rows.keyKnownRow.lifted == false) := by rw [fact_liftsFinal]
theorem k_make2 : (Try.prog.make == some Rows.keyKnownRow.make) = true := by rw [fact_make, k_make]; rfl
set_option maxRecDepth 100000 in
theorem closed : joinedFacts Try.prog 6 Try.f6 Rows.keyKnownSpec Rows.keyKnownRow = true :=
  joined_of Try.prog 6 Try.f6 Rows.keyKnownSpec Rows.keyKnownRow k_wf fact_laidOut fact_mapsRowed k_params k_tie k_stops fact_stops k_knobs fact_stopKnobs k_inPlace k_unfollowed k_recurses k_named k_maps k_ifaces k_mapsOut k_loops k_wideKeys k_vars k_results k_ifacesOut k_loopsOut k_plain2 k_plain k_short fact_stopsHeard fact_mayEnter k_lift2 k_lift k_make2 k_kinds k_pins k_veiled k_fits
theorem over : Rows.keyKnownRow.holds Try.pinned (OpenSpec.ofChange Rows.keyKnownSpec) :=
  OpenClaim.holds_of_wide 6 Try.f6 rfl rfl rfl rfl rfl rfl rfl ⟨rfl, rfl, rfl, rfl, rfl⟩ rfl rfl rfl rfl rfl k_func Try.func6 closed
    (of_decide_eq_true (by kernel_rfl)) (by unfold Func.isWrapper; first | (rw [if_pos (by decide +kernel)]; kernel_rfl) | (rw [if_neg (by decide +kernel)]; exact ⟨rfl, rfl⟩))
    (fun os started H enc _ => lifted os started H enc)
theorem proved : Rows.KeyKnownSaid := over
#print axioms proved
end Go.Proofs.Ytlmcefhpnfoahaa.keyKnown
namespace Go.Proofs.Ytlmcefhpnfoahaa
/-- The row, under a short name, for the claim. -/
theorem keyKnown_holds : Rows.KeyKnownSaid := keyKnown.proved
end Go.Proofs.Ytlmcefhpnfoahaa
