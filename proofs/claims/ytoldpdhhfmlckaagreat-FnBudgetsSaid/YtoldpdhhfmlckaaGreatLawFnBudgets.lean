/- The law FnBudgets answers true for every input, and the input reads as it did. No condition. -/
import Derived.Test.YtoldpdhhfmlckaaGreatRows
import Derived.Test.YtoldpdhhfmlckaaGreatQB3
import Derived.WalkKit
import Derived.ProofKit
namespace Go.Proofs.YtoldpdhhfmlckaaGreat.fnBudgets
open Go.Ev
set_option linter.unusedVariables false
theorem types : Tryz.f3.params.toList = [22] := by kernel_rfl
set_option maxRecDepth 100000 in
theorem hev (ds : List D) (h : All2 (PFits Tryz.prog) Tryz.f3.params.toList ds) : ∃ k, ev Tryz.prog An k 3 ds = some [.bool true] := by
  rw [types] at h
  cases h with | cons h0 h => cases h with | nil =>
  unfold PFits at h0
  rw [show isAggT Tryz.prog 22 = false by kernel_rfl, if_neg (by simp), show cty Tryz.prog 22 = [.sl (.int IntKind.u8)] by kernel_rfl] at h0
  obtain ⟨c0, hc0, h0⟩ := h0
  cases hc0
  obtain ⟨az, ar_a, rfl, wf_a, wl_a, wn_a⟩ := h0
  cases ar_a with | bools _ => exact wf_a.elim | strs _ => exact wf_a.elim | r3 _ => exact wf_a.elim | r4 _ => exact wf_a.elim | ints kk_a a =>
  obtain ⟨rfl, wf_a⟩ := wf_a
  have hl_a : (a.length : Int) ≤ 9223372036854775807 := by simp only [Arr.len, maxLen] at wl_a; omega
  exact ⟨2000000 + 13, law_FnBudgets 2000000 (by omega) az a⟩
set_option maxRecDepth 100000 in
theorem lifted (os : Os) (started : os.Started) (H : Type) (enc : TypeId × Value → H) :
    ReturnsInHanded {} Tryz.checked os 3 .any (Rows.fnBudgetsSpec.pre6 enc Tryz.prog Tryz.f3 Rows.fnBudgetsRow.domain false) (Rows.fnBudgetsSpec.post enc Tryz.prog Tryz.f3 false true false false) := by
  refine returns_true (C := Tryz.checked) (A := An) (tb := 4) ownKnob0 started (by kernel_rfl) Tryz.func3
    (ChangeSpec.witness6 (enc := enc) (C := Tryz.checked) false ⟨#[], #[.slice none 0 0], []⟩ 8 (by kernel_rfl) (by kernel_rfl) (by kernel_rfl) (by kernel_rfl))
    good withExt rfl laidOut0 (by kernel_rfl) (by kernel_rfl) (by kernel_rfl) rfl (fun ds h => ?_) hev
  match ds, h with
  | [d0], _ => rfl
theorem andB {a b : Bool} (ha : a = true) (hb : b = true) : (a && b) = true := by rw [ha, hb]; rfl
theorem j0 : (Rows.fnBudgetsRow.wf (OpenSpec.ofChange Rows.fnBudgetsSpec)) = true := by kernel_rfl
theorem j1 : (laidOutB Tryz.pinned.checked.prog) = true := by kernel_rfl
theorem j2 : (mapsRowed Tryz.pinned.checked.prog) = true := by kernel_rfl
theorem j3 : (Tryz.f3.params.all (Tryz.pinned.checked.prog.readableRec ·)) = true := by kernel_rfl
theorem j4 : (namedTie Tryz.pinned.checked.prog Rows.fnBudgetsRow.named Rows.fnBudgetsSpec.vars) = true := by kernel_rfl
theorem j5 : ((Rows.fnBudgetsRow.stops == [])) = true := by kernel_rfl
theorem j6 : ((Tryz.pinned.checked.prog.stops == [])) = true := by kernel_rfl
theorem j7 : ((Rows.fnBudgetsRow.knobs == [])) = true := by kernel_rfl
theorem j8 : ((Tryz.pinned.checked.prog.stopKnobs == [])) = true := by kernel_rfl
theorem j9 : ((Rows.fnBudgetsRow.inPlace == Tryz.pinned.checked.prog.inPlace 3)) = true := by kernel_rfl
theorem j10 : ((Rows.fnBudgetsRow.unfollowed == Tryz.pinned.checked.prog.unfollowed 3)) = true := by kernel_rfl
theorem j11 : ((Rows.fnBudgetsRow.recurses == Tryz.pinned.checked.prog.recurses 3)) = true := by kernel_rfl
theorem j12 : ((Rows.fnBudgetsRow.named == Tryz.pinned.checked.prog.varsNamed 3)) = true := by kernel_rfl
theorem j13 : ((Rows.fnBudgetsRow.maps == (Tryz.f3.params.toList ++ Rows.fnBudgetsSpec.plain.varTypes Tryz.pinned.checked.prog).any (Tryz.pinned.checked.prog.mapsRec ·))) = true := by kernel_rfl
theorem j14 : ((Rows.fnBudgetsRow.ifaces == (Tryz.f3.params.toList ++ Rows.fnBudgetsSpec.plain.varTypes Tryz.pinned.checked.prog).any (Tryz.pinned.checked.prog.ifacesRec ·))) = true := by kernel_rfl
theorem j15 : ((Rows.fnBudgetsRow.mapsOut == Tryz.pinned.checked.prog.mapsAmong Tryz.f3.resultTypes.toList)) = true := by kernel_rfl
theorem j16 : ((Rows.fnBudgetsRow.loops == (Tryz.f3.params.toList ++ Rows.fnBudgetsSpec.plain.varTypes Tryz.pinned.checked.prog).any (Tryz.pinned.checked.prog.loopsFrom ·))) = true := by kernel_rfl
theorem j17 : ((Rows.fnBudgetsRow.wideKeys == (Tryz.f3.params.toList ++ Rows.fnBudgetsSpec.plain.varTypes Tryz.pinned.checked.prog ++ Tryz.f3.resultTypes.toList).any (Tryz.pinned.checked.prog.wideKeysFrom ·))) = true := by kernel_rfl
theorem j18 : (Rows.fnBudgetsSpec.vars.all (Tryz.pinned.checked.prog.varReadable ·)) = true := by kernel_rfl
theorem j19 : (Tryz.f3.resultTypes.all (fun t => Tryz.pinned.checked.prog.readableRec t && decide (t < Tryz.pinned.checked.prog.types.size))) = true := by kernel_rfl
theorem j20 : ((Rows.fnBudgetsRow.ifacesOut == Tryz.f3.resultTypes.toList.any (Tryz.pinned.checked.prog.ifacesRec ·))) = true := by kernel_rfl
theorem j21 : ((Rows.fnBudgetsRow.loopsOut == Tryz.f3.resultTypes.toList.any (Tryz.pinned.checked.prog.loopsFrom ·))) = true := by kernel_rfl
theorem j22 : ((Rows.fnBudgetsRow.plainKeys == Tryz.pinned.checked.prog.plainKeys)) = true := by kernel_rfl
theorem j23 : (Rows.fnBudgetsRow.shortTexts.isNone) = true := by kernel_rfl
theorem j24 : (Tryz.pinned.checked.prog.stopsHeard) = true := by kernel_rfl
theorem j25 : (Tryz.pinned.checked.prog.mayEnter) = true := by kernel_rfl
theorem j26 : ((Rows.fnBudgetsRow.lifted == Tryz.pinned.checked.prog.liftsFinal)) = true := by kernel_rfl
theorem j27 : ((Tryz.pinned.checked.prog.make == some Rows.fnBudgetsRow.make)) = true := by kernel_rfl
theorem j28 : ((Rows.fnBudgetsRow.kinds == (if Rows.fnBudgetsRow.domain.isEmpty then [] else Tryz.f3.params.toList.map fun t => match Tryz.pinned.checked.prog.underlying t with | some (.int k) => some k | _ => none))) = true := by kernel_rfl
theorem j29 : ((Rows.fnBudgetsRow.pinned == Rows.fnBudgetsRow.pinnedBy)) = true := by kernel_rfl
theorem j30 : ((Rows.fnBudgetsRow.veiled == (Tryz.f3.params.toList ++ Rows.fnBudgetsSpec.plain.varTypes Tryz.pinned.checked.prog ++ Tryz.f3.resultTypes.toList).any (Tryz.pinned.checked.prog.veiledRec ·))) = true := by kernel_rfl
theorem j31 : (Rows.fnBudgetsRow.veiledFits Tryz.pinned.checked.prog Tryz.f3.params.toList (Tryz.f3.params.toList ++ Rows.fnBudgetsSpec.plain.varTypes Tryz.pinned.checked.prog ++ Tryz.f3.resultTypes.toList)) = true := by kernel_rfl
set_option maxRecDepth 100000 in
theorem facts : joinedFacts Tryz.pinned.checked.prog 3 Tryz.f3 Rows.fnBudgetsSpec Rows.fnBudgetsRow = true := by
  unfold joinedFacts
  exact andB (andB (andB (andB (andB (andB (andB (andB (andB (andB (andB (andB (andB (andB (andB (andB (andB (andB (andB (andB (andB (andB (andB (andB (andB (andB (andB (andB (andB (andB (andB j0 j1) j2) j3) j4) j5) j6) j7) j8) j9) j10) j11) j12) j13) j14) j15) j16) j17) j18) j19) j20) j21) j22) j23) j24) j25) j26) j27) j28) j29) j30) j31
theorem over : Rows.fnBudgetsRow.holds Tryz.pinned (OpenSpec.ofChange Rows.fnBudgetsSpec) :=
  OpenClaim.holds_of_wide 3 Tryz.f3 rfl rfl rfl rfl rfl rfl rfl ⟨rfl, rfl, rfl, rfl, rfl⟩ rfl rfl rfl rfl rfl (by kernel_rfl) Tryz.func3 facts
    (of_decide_eq_true (by kernel_rfl)) (by unfold Func.isWrapper; first | (rw [if_pos (by decide +kernel)]; kernel_rfl) | (rw [if_neg (by decide +kernel)]; exact ⟨rfl, rfl⟩))
    (fun os started H enc _ => lifted os started H enc)
end Go.Proofs.YtoldpdhhfmlckaaGreat.fnBudgets
namespace Go.Proofs.YtoldpdhhfmlckaaGreat
/-- The row, under a short name, for the claim. -/
theorem fnBudgets_holds : Rows.FnBudgetsSaid := fnBudgets.over
#print axioms fnBudgets_holds
end Go.Proofs.YtoldpdhhfmlckaaGreat
