/- The program's head, read once: what the rows of all laws ask of the program alone. No condition. -/
import Derived.Test.YtlmcefhpnfoahaaRows
import Derived.JoinedOf
import Derived.KernelRfl
namespace Go.Proofs.Ytlmcefhpnfoahaa.P
open Go
def headNums : List Nat := [104, 97, 114, 110, 101, 115, 115, 32, 52, 99, 52, 100, 50, 98, 52, 55, 56, 54, 57, 48, 100, 97, 50, 98, 56, 98, 101, 57, 48, 50, 100, 101, 55, 57, 54, 57, 97, 53, 53, 97, 101, 49, 101, 50, 48, 97, 57, 101, 101, 49, 97, 54, 49, 51, 50, 100, 102, 101, 50, 51, 48, 50, 52, 57, 101, 101, 55, 57, 49, 50, 56, 97, 32, 99, 117, 116, 32, 97, 116, 32, 116, 105, 100, 101, 108, 105, 110, 101, 47, 116, 105, 100, 101, 108, 105, 110, 101, 108, 97, 119, 48, 51, 46, 75, 101, 121, 65, 112, 112, 101, 110, 100, 115, 32, 116, 105, 100, 101, 108, 105, 110, 101, 47, 116, 105, 100, 101, 108, 105, 110, 101, 108, 97, 119, 48, 51, 46, 75, 101, 121, 79, 114, 100, 101, 114, 115, 32, 116, 105, 100, 101, 108, 105, 110, 101, 47, 116, 105, 100, 101, 108, 105, 110, 101, 108, 97, 119, 48, 51, 46, 75, 101, 121, 66, 97, 99, 107, 32, 116, 105, 100, 101, 108, 105, 110, 101, 47, 116, 105, 100, 101, 108, 105, 110, 101, 108, 97, 119, 48, 51, 46, 75, 101, 121, 75, 110, 111, 119, 110, 32, 116, 105, 100, 101, 108, 105, 110, 101, 47, 116, 105, 100, 101, 108, 105, 110, 101, 108, 97, 119, 48, 51, 46, 75, 101, 121, 80, 97, 114, 115, 101, 115, 32, 116, 105, 100, 101, 108, 105, 110, 101, 47, 116, 105, 100, 101, 108, 105, 110, 101, 108, 97, 119, 48, 51, 46, 75, 101, 121, 80, 114, 101, 102, 105, 120, 32, 116, 105, 100, 101, 108, 105, 110, 101, 47, 116, 105, 100, 101, 108, 105, 110, 101, 108, 97, 119, 48, 55, 46, 83, 101, 103, 109, 101, 110, 116, 67, 117, 116, 115, 32, 116, 105, 100, 101, 108, 105, 110, 101, 47, 116, 105, 100, 101, 108, 105, 110, 101, 108, 97, 119, 48, 52, 46, 82, 111, 119, 80, 117, 116, 115, 32, 116, 105, 100, 101, 108, 105, 110, 101, 47, 116, 105, 100, 101, 108, 105, 110, 101, 108, 97, 119, 48, 52, 46, 82, 111, 119, 71, 101, 116, 115, 32, 116, 105, 100, 101, 108, 105, 110, 101, 47, 116, 105, 100, 101, 108, 105, 110, 101, 108, 97, 119, 48, 55, 46, 83, 101, 103, 109, 101, 110, 116, 75, 110, 111, 119, 110, 32, 116, 105, 100, 101, 108, 105, 110, 101, 47, 116, 105, 100, 101, 108, 105, 110, 101, 108, 97, 119, 48, 52, 46, 82, 111, 119, 66, 97, 99, 107, 32, 116, 105, 100, 101, 108, 105, 110, 101, 47, 116, 105, 100, 101, 108, 105, 110, 101, 108, 97, 119, 48, 52, 46, 82, 111, 119, 65, 112, 97, 114, 116, 32, 116, 105, 100, 101, 108, 105, 110, 101, 47, 116, 105, 100, 101, 108, 105, 110, 101, 108, 97, 119, 48, 52, 46, 82, 111, 119, 83, 105, 122, 101, 115, 32, 116, 105, 100, 101, 108, 105, 110, 101, 47, 116, 105, 100, 101, 108, 105, 110, 101, 108, 97, 119, 48, 52, 46, 82, 111, 119, 75, 110, 111, 119, 110, 32, 116, 105, 100, 101, 108, 105, 110, 101, 47, 116, 105, 100, 101, 108, 105, 110, 101, 108, 97, 119, 48, 54, 46, 67, 111, 108, 117, 109, 110, 80, 117, 116, 115, 32, 116, 105, 100, 101, 108, 105, 110, 101, 47, 116, 105, 100, 101, 108, 105, 110, 101, 108, 97, 119, 48, 54, 46, 67, 111, 108, 117, 109, 110, 71, 101, 116, 115, 32, 116, 105, 100, 101, 108, 105, 110, 101, 47, 116, 105, 100, 101, 108, 105, 110, 101, 108, 97, 119, 48, 54, 46, 67, 111, 108, 117, 109, 110, 66, 97, 99, 107, 32, 116, 105, 100, 101, 108, 105, 110, 101, 47, 116, 105, 100, 101, 108, 105, 110, 101, 108, 97, 119, 48, 54, 46, 67, 111, 108, 117, 109, 110, 65, 112, 97, 114, 116, 32, 116, 105, 100, 101, 108, 105, 110, 101, 47, 116, 105, 100, 101, 108, 105, 110, 101, 108, 97, 119, 48, 54, 46, 67, 111, 108, 117, 109, 110, 83, 109, 97, 108, 108, 32, 116, 105, 100, 101, 108, 105, 110, 101, 47, 116, 105, 100, 101, 108, 105, 110, 101, 108, 97, 119, 48, 54, 46, 67, 111, 108, 117, 109, 110, 66, 111, 117, 110, 100, 115, 32, 116, 105, 100, 101, 108, 105, 110, 101, 47, 116, 105, 100, 101, 108, 105, 110, 101, 108, 97, 119, 48, 54, 46, 67, 111, 108, 117, 109, 110, 76, 105, 101, 115, 32, 116, 105, 100, 101, 108, 105, 110, 101, 47, 116, 105, 100, 101, 108, 105, 110, 101, 108, 97, 119, 48, 54, 46, 67, 111, 108, 117, 109, 110, 75, 110, 111, 119, 110, 32, 116, 105, 100, 101, 108, 105, 110, 101, 47, 116, 105, 100, 101, 108, 105, 110, 101, 108, 97, 119, 48, 55, 46, 83, 101, 103, 109, 101, 110, 116, 77, 97, 107, 101, 115, 32, 116, 105, 100, 101, 108, 105, 110, 101, 47, 116, 105, 100, 101, 108, 105, 110, 101, 108, 97, 119, 48, 55, 46, 83, 101, 103, 109, 101, 110, 116, 79, 112, 101, 110, 115, 32, 116, 105, 100, 101, 108, 105, 110, 101, 47, 116, 105, 100, 101, 108, 105, 110, 101, 108, 97, 119, 48, 55, 46, 83, 101, 103, 109, 101, 110, 116, 66, 97, 99, 107, 32, 116, 105, 100, 101, 108, 105, 110, 101, 47, 116, 105, 100, 101, 108, 105, 110, 101, 108, 97, 119, 48, 55, 46, 83, 101, 103, 109, 101, 110, 116, 66, 111, 117, 110, 100, 115]
theorem head_text : Try.prog.initOrder = "harness 4c4d2b478690da2b8be902de7969a55ae1e20a9ee1a6132dfe230249ee79128a cut at tideline/tidelinelaw03.KeyAppends tideline/tidelinelaw03.KeyOrders tideline/tidelinelaw03.KeyBack tideline/tidelinelaw03.KeyKnown tideline/tidelinelaw03.KeyParses tideline/tidelinelaw03.KeyPrefix tideline/tidelinelaw07.SegmentCuts tideline/tidelinelaw04.RowPuts tideline/tidelinelaw04.RowGets tideline/tidelinelaw07.SegmentKnown tideline/tidelinelaw04.RowBack tideline/tidelinelaw04.RowApart tideline/tidelinelaw04.RowSizes tideline/tidelinelaw04.RowKnown tideline/tidelinelaw06.ColumnPuts tideline/tidelinelaw06.ColumnGets tideline/tidelinelaw06.ColumnBack tideline/tidelinelaw06.ColumnApart tideline/tidelinelaw06.ColumnSmall tideline/tidelinelaw06.ColumnBounds tideline/tidelinelaw06.ColumnLies tideline/tidelinelaw06.ColumnKnown tideline/tidelinelaw07.SegmentMakes tideline/tidelinelaw07.SegmentOpens tideline/tidelinelaw07.SegmentBack tideline/tidelinelaw07.SegmentBounds" := by kernel_rfl
set_option maxRecDepth 100000 in
theorem head_lit : "harness 4c4d2b478690da2b8be902de7969a55ae1e20a9ee1a6132dfe230249ee79128a cut at tideline/tidelinelaw03.KeyAppends tideline/tidelinelaw03.KeyOrders tideline/tidelinelaw03.KeyBack tideline/tidelinelaw03.KeyKnown tideline/tidelinelaw03.KeyParses tideline/tidelinelaw03.KeyPrefix tideline/tidelinelaw07.SegmentCuts tideline/tidelinelaw04.RowPuts tideline/tidelinelaw04.RowGets tideline/tidelinelaw07.SegmentKnown tideline/tidelinelaw04.RowBack tideline/tidelinelaw04.RowApart tideline/tidelinelaw04.RowSizes tideline/tidelinelaw04.RowKnown tideline/tidelinelaw06.ColumnPuts tideline/tidelinelaw06.ColumnGets tideline/tidelinelaw06.ColumnBack tideline/tidelinelaw06.ColumnApart tideline/tidelinelaw06.ColumnSmall tideline/tidelinelaw06.ColumnBounds tideline/tidelinelaw06.ColumnLies tideline/tidelinelaw06.ColumnKnown tideline/tidelinelaw07.SegmentMakes tideline/tidelinelaw07.SegmentOpens tideline/tidelinelaw07.SegmentBack tideline/tidelinelaw07.SegmentBounds" = String.ofList (headNums.map Char.ofNat) := by kernel_rfl
theorem head_list : Try.prog.initOrder.toList = headNums.map Char.ofNat := by rw [head_text, head_lit, String.toList_ofList]
set_option maxRecDepth 100000 in
theorem head_cut : (behindMainWord (wordsSigns (headNums.map Char.ofNat))).head? = some "cut".toList := by kernel_rfl
theorem head_words : ∃ rest, behindMainWord (wordsSigns Try.prog.initOrder.toList) = "cut".toList :: rest := by
  rw [head_list]
  have h := head_cut
  cases hw : behindMainWord (wordsSigns (headNums.map Char.ofNat)) with
  | nil => rw [hw] at h; cases h
  | cons a r => rw [hw] at h; injection h with h; exact ⟨r, by rw [h]⟩
theorem strip_cut (rest : List (List Char)) : stripLifts liftWords ("cut".toList :: rest) = ([], "cut".toList :: rest) := by kernel_rfl
theorem cut_carried : ("cut".toList == "carried".toList) = false := by kernel_rfl
theorem cut_gc : ("cut".toList == "gc".toList) = false := by kernel_rfl
theorem cut_spec : ("cut".toList == "spec".toList) = false := by kernel_rfl
theorem cut_cut : ("cut".toList == "cut".toList) = true := by kernel_rfl
theorem fact_stops : (Try.prog.stops == []) = true := by kernel_rfl
theorem fact_stopKnobs : (Try.prog.stopKnobs == []) = true := by kernel_rfl
theorem fact_mapsRowed : mapsRowed Try.prog = true := by kernel_rfl
theorem fact_plainKeys : Try.prog.plainKeys = true := by kernel_rfl
theorem fact_stopsHeard : Try.prog.stopsHeard = true := by kernel_rfl
theorem fact_laidOut : laidOutB Try.prog = true := by kernel_rfl
theorem fact_laysLater : Try.prog.laysLater = false := by kernel_rfl
theorem fact_door : Try.prog.doorFits [] = true := by kernel_rfl
/-- The functions without a body. -/
def bare : List String := ["main.main", "gosem.cut", "internal/bytealg.Compare", "(runtime.boundsError).Error", "(runtime.boundsError).RuntimeError", "(runtime.errorString).Error", "(runtime.errorString).RuntimeError", "(runtime.plainError).Error", "(runtime.plainError).RuntimeError", "(runtime.errorAddressString).Error", "(runtime.errorAddressString).RuntimeError", "(*runtime.TypeAssertionError).Error", "(*runtime.TypeAssertionError).RuntimeError", "(*runtime.PanicNilError).Error", "(*runtime.PanicNilError).RuntimeError", "(*internal/abi.Type).Align", "(internal/runtime/maps.unhashableTypeError).Error", "(internal/runtime/maps.unhashableTypeError).RuntimeError", "(tideline/api.Errno).Error", "(internal/abi.Kind).String"]
theorem bare_eq : (Try.prog.funcs.toList.filter (fun fn => fn.body.isNone)).map (fun fn => fn.name) = bare := by kernel_rfl
def reflName (s : String) : Bool := opensWith (nameBytes "reflect.") (nameBytes s) || opensWith (nameBytes "(reflect.") (nameBytes s) || opensWith (nameBytes "(*reflect.") (nameBytes s)
theorem bare0 : reflName "main.main" = false := by kernel_rfl
theorem bare1 : reflName "gosem.cut" = false := by kernel_rfl
theorem bare2 : reflName "internal/bytealg.Compare" = false := by kernel_rfl
theorem bare3 : reflName "(runtime.boundsError).Error" = false := by kernel_rfl
theorem bare4 : reflName "(runtime.boundsError).RuntimeError" = false := by kernel_rfl
theorem bare5 : reflName "(runtime.errorString).Error" = false := by kernel_rfl
theorem bare6 : reflName "(runtime.errorString).RuntimeError" = false := by kernel_rfl
theorem bare7 : reflName "(runtime.plainError).Error" = false := by kernel_rfl
theorem bare8 : reflName "(runtime.plainError).RuntimeError" = false := by kernel_rfl
theorem bare9 : reflName "(runtime.errorAddressString).Error" = false := by kernel_rfl
theorem bare10 : reflName "(runtime.errorAddressString).RuntimeError" = false := by kernel_rfl
theorem bare11 : reflName "(*runtime.TypeAssertionError).Error" = false := by kernel_rfl
theorem bare12 : reflName "(*runtime.TypeAssertionError).RuntimeError" = false := by kernel_rfl
theorem bare13 : reflName "(*runtime.PanicNilError).Error" = false := by kernel_rfl
theorem bare14 : reflName "(*runtime.PanicNilError).RuntimeError" = false := by kernel_rfl
theorem bare15 : reflName "(*internal/abi.Type).Align" = false := by kernel_rfl
theorem bare16 : reflName "(internal/runtime/maps.unhashableTypeError).Error" = false := by kernel_rfl
theorem bare17 : reflName "(internal/runtime/maps.unhashableTypeError).RuntimeError" = false := by kernel_rfl
theorem bare18 : reflName "(tideline/api.Errno).Error" = false := by kernel_rfl
theorem bare19 : reflName "(internal/abi.Kind).String" = false := by kernel_rfl
theorem bare_no : bare.any reflName = false := by
  unfold bare
  simp only [List.any_cons, List.any_nil, bare0, bare1, bare2, bare3, bare4, bare5, bare6, bare7, bare8, bare9, bare10, bare11, bare12, bare13, bare14, bare15, bare16, bare17, bare18, bare19, Bool.or_false]
theorem any_filter_map (l : List Func) (p : Func → Bool) (q : String → Bool) : (l.any fun fn => p fn && q fn.name) = ((l.filter p).map (fun fn => fn.name)).any q := by
  induction l with
  | nil => rfl
  | cons a r ih =>
    rw [List.any_cons, ih, List.filter_cons]
    cases p a <;> simp
theorem fact_reflect : Try.prog.bearsReflect = false := by
  show (Try.prog.funcs.toList.any fun fn => fn.body.isNone && reflName fn.name) = false
  rw [any_filter_map, bare_eq, bare_no]
theorem mayEnter_of (P : Program) (rest : List (List Char)) (h : behindMainWord (wordsSigns P.initOrder.toList) = "cut".toList :: rest) (h1 : P.laysLater = false) (h2 : P.bearsReflect = false) (h3 : P.doorFits [] = true) : P.mayEnter = true := by
  unfold Program.mayEnter
  rw [h]
  dsimp only
  rw [strip_cut, h1, h2, h3]
  simp only [List.head?_cons, Option.some_beq_some, cut_cut, Bool.not_false, Bool.or_true, Bool.and_true, List.contains_nil]
theorem headLifts_of (P : Program) (rest : List (List Char)) (h : behindMainWord (wordsSigns P.initOrder.toList) = "cut".toList :: rest) : P.headLifts = [] := by
  unfold Program.headLifts
  rw [h, strip_cut]
  simp only [List.head?_cons, Option.some_beq_some, cut_cut, if_true]
theorem liftsFinal_of (P : Program) (rest : List (List Char)) (h : behindMainWord (wordsSigns P.initOrder.toList) = "cut".toList :: rest) : P.liftsFinal = false := by
  unfold Program.liftsFinal
  rw [h, headLifts_of P rest h]
  simp only [List.head?_cons, Option.some_beq_some, cut_carried, Bool.false_and, List.contains_nil, Bool.or_false]
theorem make_of (P : Program) (rest : List (List Char)) (h : behindMainWord (wordsSigns P.initOrder.toList) = "cut".toList :: rest) : P.make = some .cut := by
  unfold Program.make
  rw [h]
  simp only [cut_gc, cut_spec, cut_cut, Bool.or_false, Bool.true_or, Bool.false_eq_true, if_false, if_true]
theorem joined_of (P : Program) (f : FuncId) (fn : Func) (s : ChangeSpec) (c : OpenClaim) (h0 : c.wf (OpenSpec.ofChange s) = true) (h1 : laidOutB P = true) (h2 : mapsRowed P = true) (h3 : fn.params.all (P.readableRec ·) = true) (h4 : namedTie P c.named s.vars = true) (h5 : (c.stops == []) = true) (h6 : (P.stops == []) = true) (h7 : (c.knobs == []) = true) (h8 : (P.stopKnobs == []) = true)
    (h9 : (c.inPlace == P.inPlace f) = true) (h10 : (c.unfollowed == P.unfollowed f) = true) (h11 : (c.recurses == P.recurses f) = true) (h12 : (c.named == P.varsNamed f) = true) (h13 : (c.maps == (fn.params.toList ++ s.plain.varTypes P).any (P.mapsRec ·)) = true) (h14 : (c.ifaces == (fn.params.toList ++ s.plain.varTypes P).any (P.ifacesRec ·)) = true) (h15 : (c.mapsOut == P.mapsAmong fn.resultTypes.toList) = true)
    (h16 : (c.loops == (fn.params.toList ++ s.plain.varTypes P).any (P.loopsFrom ·)) = true) (h17 : (c.wideKeys == (fn.params.toList ++ s.plain.varTypes P ++ fn.resultTypes.toList).any (P.wideKeysFrom ·)) = true) (h18 : s.vars.all (P.varReadable ·) = true) (h19 : fn.resultTypes.all (fun t => P.readableRec t && decide (t < P.types.size)) = true) (h20 : (c.ifacesOut == fn.resultTypes.toList.any (P.ifacesRec ·)) = true) (h21 : (c.loopsOut == fn.resultTypes.toList.any (P.loopsFrom ·)) = true)
    (h22 : (c.plainKeys == P.plainKeys) = (c.plainKeys == true)) (h23 : c.plainKeys = true) (h24 : c.shortTexts.isNone = true) (h25 : P.stopsHeard = true) (h26 : P.mayEnter = true) (h27 : (c.lifted == P.liftsFinal) = (c.lifted == false)) (h28 : c.lifted = false) (h29 : (P.make == some c.make) = true)
    (h30 : (c.kinds == (if c.domain.isEmpty then [] else fn.params.toList.map fun t => match P.underlying t with | some (.int k) => some k | _ => none)) = true) (h31 : (c.pinned == c.pinnedBy) = true) (h32 : (c.veiled == (fn.params.toList ++ s.plain.varTypes P ++ fn.resultTypes.toList).any (P.veiledRec ·)) = true) (h33 : c.veiledFits P fn.params.toList (fn.params.toList ++ s.plain.varTypes P ++ fn.resultTypes.toList) = true) : joinedFacts P f fn s c = true := by
  unfold joinedFacts
  rw [h0, h1, h2, h3, h4, h5, h6, h7, h8, h9, h10, h11, h12, h13, h14, h15, h16, h17, h18, h19, h20, h21, h22, h23, h24, h25, h26, h27, h28, h29, h31, h32, h33]
  simp only [Bool.true_and, Bool.and_true, beq_self_eq_true]
  exact h30
theorem fact_mayEnter : Try.prog.mayEnter = true := head_words.elim fun rest h => mayEnter_of Try.prog rest h fact_laysLater fact_reflect fact_door
theorem fact_liftsFinal : Try.prog.liftsFinal = false := head_words.elim fun rest h => liftsFinal_of Try.prog rest h
theorem fact_make : Try.prog.make = some .cut := head_words.elim fun rest h => make_of Try.prog rest h
end Go.Proofs.Ytlmcefhpnfoahaa.P
