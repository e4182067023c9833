import Derived.JoinedOf
import Derived.KernelRfl
import Derived.Test.YtgchbbjhdeobpaaGreatDoorRows
/- What the claim's proof reaches of: Facts. -/
namespace Go.Proofs.YtgchbbjhdeobpaaGreatDoor
set_option linter.unusedVariables false

theorem words_app : ∀ (u r : List Char), (∀ c ∈ u, c ≠ Char.ofNat 32) → wordsSigns (u ++ Char.ofNat 32 :: r) = u :: wordsSigns r
  | [], r, _ => rfl
  | c :: u, r, h => by
    have ih := words_app u r fun x hx => h x (by simp [hx])
    rw [List.cons_append, wordsSigns.eq_3 c _ (fun e => h c (by simp) e), ih]
def chars (l : List Nat) : List Char := l.map Char.ofNat
def word1 : List Char := chars [104, 97, 114, 110, 101, 115, 115]
def word2 : List Char := chars [49, 53, 57, 55, 51, 52, 53, 100, 51, 53, 99, 48, 100, 52, 56, 100, 53, 97, 56, 48, 55, 49, 52, 57, 102, 97, 97, 54, 57, 99, 97, 56, 49, 57, 51, 48, 54, 54, 101, 52, 51, 48, 48, 48, 54, 52, 97, 98, 56, 57, 51, 97, 57, 55, 55, 102, 51, 101, 98, 53, 52, 50, 53, 49]
def word3 : List Char := chars [99, 117, 116]
def wordsRest : List Char := chars [97, 116, 32, 108, 111, 111, 112, 46, 101, 120, 97, 109, 112, 108, 101, 47, 103, 48, 48, 56, 49, 49, 47, 108, 97, 119, 115, 46, 70, 110, 69, 120, 97, 99, 116, 80, 97, 114, 115, 101, 82, 97, 116, 32, 108, 111, 111, 112, 46, 101, 120, 97, 109, 112, 108, 101, 47, 103, 48, 48, 56, 49, 49, 47, 108, 97, 119, 115, 46, 70, 110, 82, 97, 116, 115]
theorem start_text : Tryz.prog.initOrder = String.ofList (word1 ++ Char.ofNat 32 :: (word2 ++ Char.ofNat 32 :: (word3 ++ Char.ofNat 32 :: wordsRest))) := by
  show Tryz.progTables.initOrder = _
  unfold Tryz.progTables
  dsimp only
  kernel_rfl
theorem no_space {l : List Char} (h : (l.all fun c => c != Char.ofNat 32) = true) : ∀ c ∈ l, c ≠ Char.ofNat 32 := by
  intro c hc
  have := List.all_eq_true.1 h c hc
  simpa using this
theorem start_words : ∃ T, wordsSigns Tryz.prog.initOrder.toList = word1 :: word2 :: word3 :: T := by
  refine ⟨wordsSigns wordsRest, ?_⟩
  rw [start_text, String.toList_ofList, words_app _ _ (no_space (by kernel_rfl)), words_app _ _ (no_space (by kernel_rfl)), words_app _ _ (no_space (by kernel_rfl))]
theorem behind_main (T : List (List Char)) : behindMainWord (word1 :: word2 :: word3 :: T) = word3 :: T := by kernel_rfl
theorem not_gc : (word3 == "gc".toList) = false := by kernel_rfl
theorem not_spec : (word3 == "spec".toList) = false := by kernel_rfl
theorem not_carried : (word3 == "carried".toList) = false := by kernel_rfl
theorem is_cut : (word3 == "cut".toList) = true := by kernel_rfl
theorem is_cut' : (some word3 == some "cut".toList) = true := by kernel_rfl
theorem no_lifts (T : List (List Char)) : stripLifts liftWords (word3 :: T) = ([], word3 :: T) := by kernel_rfl
theorem lays_no : Tryz.prog.laysLater = false := by kernel_rfl
theorem reflect_no : Tryz.prog.bearsReflect = false := by kernel_rfl
theorem door_fits : Tryz.prog.doorFits [] = true := by kernel_rfl
theorem mayEnter_of {P : Program} {T : List (List Char)} (h : wordsSigns P.initOrder.toList = word1 :: word2 :: word3 :: T) (h1 : P.laysLater = false) (h2 : P.bearsReflect = false) (h3 : P.doorFits [] = true) : P.mayEnter = true := by
  unfold Program.mayEnter
  simp only [h, behind_main, not_gc, not_spec, not_carried, no_lifts, List.head?_cons, is_cut', h1, h2, h3, Bool.false_and, Bool.not_false, Bool.or_true, Bool.and_true, Bool.or_self, List.contains_nil, Bool.and_self]
theorem liftsFinal_of {P : Program} {T : List (List Char)} (h : wordsSigns P.initOrder.toList = word1 :: word2 :: word3 :: T) : P.liftsFinal = false := by
  unfold Program.liftsFinal Program.headLifts
  simp only [h]
  kernel_rfl
theorem make_of {P : Program} {T : List (List Char)} (h : wordsSigns P.initOrder.toList = word1 :: word2 :: word3 :: T) : P.make = some .cut := by
  unfold Program.make
  simp only [h, behind_main, not_gc, not_spec, is_cut, Bool.or_self, Bool.true_or, Bool.false_eq_true, if_false, if_true]
theorem mayEnter_yes : Tryz.prog.mayEnter = true := start_words.elim fun _ h => mayEnter_of h lays_no reflect_no door_fits
theorem liftsFinal_no : Tryz.prog.liftsFinal = false := start_words.elim fun _ h => liftsFinal_of h
theorem make_cut : Tryz.prog.make = some .cut := start_words.elim fun _ h => make_of h
/-- The rows' closed facts, from those that are told apart. -/
theorem joined_of {P : Program} {f : FuncId} {fn : Func} {s : ChangeSpec} {c : OpenClaim}
    (k1 : c.wf (OpenSpec.ofChange s) = true) (k2 : laidOutB P = true) (k3 : mapsRowed P = true) (k4 : fn.params.all (P.readableRec ·) = true) (k5 : namedTie P c.named s.vars = true)
    (k6 : (c.stops == []) = true) (k7 : (P.stops == []) = true) (k8 : (c.knobs == []) = true) (k9 : (P.stopKnobs == []) = true)
    (k10 : (c.inPlace == P.inPlace f) = true) (k11 : (c.unfollowed == P.unfollowed f) = true) (k12 : (c.recurses == P.recurses f) = true) (k13 : (c.named == P.varsNamed f) = true)
    (k14 : (c.maps == (fn.params.toList ++ s.plain.varTypes P).any (P.mapsRec ·)) = true) (k15 : (c.ifaces == (fn.params.toList ++ s.plain.varTypes P).any (P.ifacesRec ·)) = true) (k16 : (c.mapsOut == P.mapsAmong fn.resultTypes.toList) = true)
    (k17 : (c.loops == (fn.params.toList ++ s.plain.varTypes P).any (P.loopsFrom ·)) = true) (k18 : (c.wideKeys == (fn.params.toList ++ s.plain.varTypes P ++ fn.resultTypes.toList).any (P.wideKeysFrom ·)) = true)
    (k19 : s.vars.all (P.varReadable ·) = true) (k20 : fn.resultTypes.all (fun t => P.readableRec t && decide (t < P.types.size)) = true) (k21 : (c.ifacesOut == fn.resultTypes.toList.any (P.ifacesRec ·)) = true) (k22 : (c.loopsOut == fn.resultTypes.toList.any (P.loopsFrom ·)) = true)
    (k23 : P.plainKeys = true) (k23' : c.plainKeys = true) (k24 : c.shortTexts.isNone = true) (k25 : P.stopsHeard = true) (k26 : P.mayEnter = true) (k27 : P.liftsFinal = false) (k27' : c.lifted = false) (k28 : P.make = some .cut) (k28' : c.make = .cut)
    (k29 : c.kinds = []) (k29' : c.domain = []) (k30 : (c.pinned == c.pinnedBy) = true)
    (k31 : (c.veiled == (fn.params.toList ++ s.plain.varTypes P ++ fn.resultTypes.toList).any (P.veiledRec ·)) = true) (k32 : c.veiledFits P fn.params.toList (fn.params.toList ++ s.plain.varTypes P ++ fn.resultTypes.toList) = true) : joinedFacts P f fn s c = true := by
  unfold joinedFacts
  rw [k1, k2, k3, k4, k5, k6, k7, k8, k9, k10, k11, k12, k13, k14, k15, k16, k17, k18, k19, k20, k21, k22, k23, k23', k24, k25, k26, k27, k27', k28, k28', k30, k31, k32, k29, k29']
  rfl
theorem laidOut : laidOutB Tryz.prog = true := by kernel_rfl
theorem mapsRowed_yes : mapsRowed Tryz.prog = true := by kernel_rfl
theorem stops_none : (Tryz.prog.stops == []) = true := by kernel_rfl
theorem knobs_none : (Tryz.prog.stopKnobs == []) = true := by kernel_rfl
theorem plainKeys_yes : Tryz.prog.plainKeys = true := by kernel_rfl
theorem stopsHeard_yes : Tryz.prog.stopsHeard = true := by kernel_rfl
theorem ownKnob_none : ownKnob Tryz.prog.godebug = none := by kernel_rfl
end Go.Proofs.YtgchbbjhdeobpaaGreatDoor
