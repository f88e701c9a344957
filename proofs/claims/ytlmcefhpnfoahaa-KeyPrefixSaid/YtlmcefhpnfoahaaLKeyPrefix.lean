/- The row of the law KeyPrefix: at every input it answers true, and each argument reads behind the call as it did. No condition. -/
import Derived.Test.YtlmcefhpnfoahaaRows
import Derived.Test.YtlmcefhpnfoahaaKF
import Derived.Test.YtlmcefhpnfoahaaKR
import Derived.Test.YtlmcefhpnfoahaaV8
import Derived.WalkKit
import Derived.ProofKit
import Derived.OpenShut
import Derived.ShutString
import Derived.ChangeOld
import Derived.Below
import Derived.SizedLaws
namespace Go.Proofs.Ytlmcefhpnfoahaa.keyPrefix
open Go.ChangeShapes Go.WideShapes Go.ChangeAt Go.RowKit Go.Proofs.Ytlmcefhpnfoahaa.P
open Go.ChangeMaps (open_string shut_string)
set_option linter.unusedVariables false
theorem own : ownKnob Try.prog.godebug = none := by kernel_rfl
theorem laidOut : laidOutB Try.prog = true := by kernel_rfl
set_option maxRecDepth 100000 in
theorem lifted (os : Os) (started : os.Started) (H : Type) (enc : TypeId × Value → H) :
    ReturnsInHanded {} Try.checked os 8 .any (Rows.keyPrefixSpec.pre6 enc Try.prog Try.f8 Rows.keyPrefixRow.domain false) (Rows.keyPrefixSpec.post enc Try.prog Try.f8 false true false false) := by
  refine returnsInHanded_of_change_sized (C := Try.checked) own started (by kernel_rfl) Try.func8
    (ChangeSpec.witness6 (enc := enc) (C := Try.checked) false ⟨#[], #[.slice none 0 0, .slice none 0 0], []⟩ 8 (by kernel_rfl) (by kernel_rfl) (by kernel_rfl) (by kernel_rfl)) ?_
  intro W base args ds gs before hval0 hW hcnd hsz0 _
  have hval : ∀ (j : Nat) t v, Try.f8.params[j]? = some t → args[j]? = some v → Value.okWide Try.prog W .any base t v := hval0
  have hW' := hW
  obtain ⟨p, q, hA0, hV, rfl, hfz, hnd⟩ := hW
  have hA : DataW.TrodAll enc Try.prog W 0 (fun _ => true) true Try.f8.params.toList args.toList ds p := hA0
  rw [Try.params8] at hA hval
  obtain ⟨v0, vs0, d0, ds0, p0, q0, hargs, rfl, rfl, h0, r0⟩ := trodAll_cons hA
  obtain ⟨v1, vs1, d1, ds1, p1, q1, rfl, rfl, rfl, h1, r1⟩ := trodAll_cons r0
  obtain ⟨rfl, rfl, rfl⟩ := trodAll_nil r1
  obtain rfl : args = #[v0, v1] := by cases args; simp_all
  obtain ⟨rfl, rfl⟩ := trodVars_none hV
  obtain ⟨a0, len0, cap0, rfl⟩ := okWide_slice Try.underlying23 (hval 0 23 v0 rfl rfl)
  have k0 := h0
  have lt0 : ∀ x ∈ p0, x.block < W.heap.size := by obtain ⟨m, hm⟩ := k0; exact DataW.trod_lt m _ _ _ hm
  obtain ⟨l0, rfl, y0, z0, m0, w0⟩ := open_arg z39 Try.underlying23 (by kernel_rfl) tells_val h0
  obtain ⟨a1, len1, cap1, rfl⟩ := okWide_slice Try.underlying23 (hval 1 23 v1 rfl rfl)
  have k1 := h1
  have lt1 : ∀ x ∈ p1, x.block < W.heap.size := by obtain ⟨m, hm⟩ := k1; exact DataW.trod_lt m _ _ _ hm
  obtain ⟨l1, rfl, y1, z1, m1, w1⟩ := open_arg z39 Try.underlying23 (by kernel_rfl) tells_val h1
  clear hA0 hval0 hsz0
  refine (walk_KeyPrefix a0 cap0 l0 a1 cap1 l1 W z0 y0 m0 w0 z1 y1 m1 w1).mono fun e W' ⟨he, bel⟩ => ?_
  subst he
  exact ⟨_, rfl, _, _, _, [], _, [], hW', trodAll_mk1 (shut_bool Try.underlying4 _), (trodAll_cons_mk (Below.trod laidOut (by kernel_rfl) (of_decide_eq_true (by kernel_rfl)) k0 bel lt0) (trodAll_cons_mk (Below.trod laidOut (by kernel_rfl) (of_decide_eq_true (by kernel_rfl)) k1 bel lt1) trodAll_mk0)), rfl, bel.frame _, fun h => by cases h⟩
theorem k_wf : Rows.keyPrefixRow.wf (OpenSpec.ofChange Rows.keyPrefixSpec) = true := by kernel_rfl
theorem k_params : Try.f8.params.all (Try.prog.readableRec ·) = true := by kernel_rfl
theorem k_tie : namedTie Try.prog Rows.keyPrefixRow.named Rows.keyPrefixSpec.vars = true := by kernel_rfl
theorem k_inPlace : (Rows.keyPrefixRow.inPlace == Try.prog.inPlace 8) = true := by kernel_rfl
theorem k_unfollowed : (Rows.keyPrefixRow.unfollowed == Try.prog.unfollowed 8) = true := by kernel_rfl
theorem k_recurses : (Rows.keyPrefixRow.recurses == Try.prog.recurses 8) = true := by kernel_rfl
theorem k_named : (Rows.keyPrefixRow.named == Try.prog.varsNamed 8) = true := by kernel_rfl
theorem k_maps : (Rows.keyPrefixRow.maps == (Try.f8.params.toList ++ Rows.keyPrefixSpec.plain.varTypes Try.prog).any (Try.prog.mapsRec ·)) = true := by kernel_rfl
theorem k_ifaces : (Rows.keyPrefixRow.ifaces == (Try.f8.params.toList ++ Rows.keyPrefixSpec.plain.varTypes Try.prog).any (Try.prog.ifacesRec ·)) = true := by kernel_rfl
theorem k_mapsOut : (Rows.keyPrefixRow.mapsOut == Try.prog.mapsAmong Try.f8.resultTypes.toList) = true := by kernel_rfl
theorem k_loops : (Rows.keyPrefixRow.loops == (Try.f8.params.toList ++ Rows.keyPrefixSpec.plain.varTypes Try.prog).any (Try.prog.loopsFrom ·)) = true := by kernel_rfl
theorem k_wideKeys : (Rows.keyPrefixRow.wideKeys == ((Try.f8.params.toList ++ Rows.keyPrefixSpec.plain.varTypes Try.prog) ++ Try.f8.resultTypes.toList).any (Try.prog.wideKeysFrom ·)) = true := by kernel_rfl
theorem k_results : Try.f8.resultTypes.all (fun t => Try.prog.readableRec t && decide (t < Try.prog.types.size)) = true := by kernel_rfl
theorem k_ifacesOut : (Rows.keyPrefixRow.ifacesOut == Try.f8.resultTypes.toList.any (Try.prog.ifacesRec ·)) = true := by kernel_rfl
theorem k_loopsOut : (Rows.keyPrefixRow.loopsOut == Try.f8.resultTypes.toList.any (Try.prog.loopsFrom ·)) = true := by kernel_rfl
theorem k_veiled : (Rows.keyPrefixRow.veiled == ((Try.f8.params.toList ++ Rows.keyPrefixSpec.plain.varTypes Try.prog) ++ Try.f8.resultTypes.toList).any (Try.prog.veiledRec ·)) = true := by kernel_rfl
theorem k_fits : Rows.keyPrefixRow.veiledFits Try.prog Try.f8.params.toList ((Try.f8.params.toList ++ Rows.keyPrefixSpec.plain.varTypes Try.prog) ++ Try.f8.resultTypes.toList) = true := by kernel_rfl
theorem k_kinds : (Rows.keyPrefixRow.kinds == (if Rows.keyPrefixRow.domain.isEmpty then [] else Try.f8.params.toList.map fun t => match Try.prog.underlying t with | some (.int k) => some k | _ => none)) = true := by kernel_rfl
theorem k_pins : (Rows.keyPrefixRow.pinned == Rows.keyPrefixRow.pinnedBy) = true := by kernel_rfl
theorem k_stops : (Rows.keyPrefixRow.stops == []) = true := by kernel_rfl
theorem k_knobs : (Rows.keyPrefixRow.knobs == []) = true := by kernel_rfl
theorem k_vars : Rows.keyPrefixSpec.vars.all (Try.prog.varReadable ·) = true := by kernel_rfl
theorem k_plain : Rows.keyPrefixRow.plainKeys = true := by kernel_rfl
theorem k_short : Rows.keyPrefixRow.shortTexts.isNone = true := by kernel_rfl
theorem k_lift : Rows.keyPrefixRow.lifted = false := by kernel_rfl
theorem k_make : Rows.keyPrefixRow.make = .cut := by kernel_rfl
theorem k_func : Try.prog.funcNamed Rows.keyPrefixRow.func = some 8 := by kernel_rfl
theorem k_plain2 : (Rows.keyPrefixRow.plainKeys == Try.prog.plainKeys) = (Rows.keyPrefixRow.plainKeys == true) := by rw [fact_plainKeys]
theorem k_lift2 : (Rows.keyPrefixRow.lifted == Try.prog.liftsFinal) = (Rows.keyPrefixRow.lifted == false) := by rw [fact_liftsFinal]
theorem k_make2 : (Try.prog.make == some Rows.keyPrefixRow.make) = true := by rw [fact_make, k_make]; rfl
set_option maxRecDepth 100000 in
theorem closed : joinedFacts Try.prog 8 Try.f8 Rows.keyPrefixSpec Rows.keyPrefixRow = true :=
  joined_of Try.prog 8 Try.f8 Rows.keyPrefixSpec Rows.keyPrefixRow k_wf fact_laidOut fact_mapsRowed k_params k_tie k_stops fact_stops k_knobs fact_stopKnobs k_inPlace k_unfollowed k_recurses k_named k_maps k_ifaces k_mapsOut k_loops k_wideKeys k_vars k_results k_ifacesOut k_loopsOut k_plain2 k_plain k_short fact_stopsHeard fact_mayEnter k_lift2 k_lift k_make2 k_kinds k_pins k_veiled k_fits
theorem over : Rows.keyPrefixRow.holds Try.pinned (OpenSpec.ofChange Rows.keyPrefixSpec) :=
  OpenClaim.holds_of_wide 8 Try.f8 rfl rfl rfl rfl rfl rfl rfl ⟨rfl, rfl, rfl, rfl, rfl⟩ rfl rfl rfl rfl rfl k_func Try.func8 closed
    (of_decide_eq_true (by kernel_rfl)) (by unfold Func.isWrapper; first | (rw [if_pos (by decide +kernel)]; kernel_rfl) | (rw [if_neg (by decide +kernel)]; exact ⟨rfl, rfl⟩))
    (fun os started H enc _ => lifted os started H enc)
theorem proved : Rows.KeyPrefixSaid := over
#print axioms proved
end Go.Proofs.Ytlmcefhpnfoahaa.keyPrefix
namespace Go.Proofs.Ytlmcefhpnfoahaa
/-- The row, under a short name, for the claim. -/
theorem keyPrefix_holds : Rows.KeyPrefixSaid := keyPrefix.proved
end Go.Proofs.Ytlmcefhpnfoahaa
