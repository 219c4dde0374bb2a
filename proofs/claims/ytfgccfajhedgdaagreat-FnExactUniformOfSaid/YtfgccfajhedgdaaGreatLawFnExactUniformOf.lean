/- The law FnExactUniformOf answers true for every input, and the input reads as it did. No condition. -/
import Derived.Test.YtfgccfajhedgdaaGreatRows
import Derived.Test.YtfgccfajhedgdaaGreatQZ3
import Derived.WalkKit
import Derived.ProofKit
namespace Go.Proofs.YtfgccfajhedgdaaGreat.fnExactUniformOf
open Go.Ev
set_option linter.unusedVariables false
theorem types : Tryz.f3.params.toList = [27, 3] := by kernel_rfl
set_option maxRecDepth 100000 in
theorem hev (ds : List D) (h : All2 (PFits Tryz.prog) Tryz.f3.params.toList ds) : ∃ k, ev Tryz.prog An k 3 ds = some [.bool true] := by
  rw [types] at h
  cases h with | cons h0 h => cases h with | cons h1 h => cases h with | nil =>
  unfold PFits at h0 h1
  rw [show isAggT Tryz.prog 27 = true by kernel_rfl, if_pos rfl, show cty Tryz.prog 27 = [.int .i64, .sl .r3, .sl (.int .i64), .sl (.int .i64), .sl (.int .i64)] by kernel_rfl] at h0
  obtain ⟨l0, rfl, h0⟩ := h0
  cases h0 with | cons q0_0 h0 =>
  cases h0 with | cons q0_1 h0 =>
  cases h0 with | cons q0_2 h0 =>
  cases h0 with | cons q0_3 h0 =>
  cases h0 with | cons q0_4 h0 =>
  cases h0 with | nil =>
  rw [show isAggT Tryz.prog 3 = false by kernel_rfl, if_neg (by simp), show cty Tryz.prog 3 = [.int .i64] by kernel_rfl] at h1
  obtain ⟨c1, hc1, h1⟩ := h1
  cases hc1
  obtain ⟨a0, rfl, w_a0⟩ := q0_0
  obtain ⟨a1z, ar_a1, rfl, wf_a1, wl_a1, wn_a1⟩ := q0_1
  cases ar_a1 with | ints _ _ => exact wf_a1.elim | bools _ => exact wf_a1.elim | strs _ => exact wf_a1.elim | r4 _ => exact wf_a1.elim | r3 a1 =>
  obtain ⟨a2z, ar_a2, rfl, wf_a2, wl_a2, wn_a2⟩ := q0_2
  cases ar_a2 with | bools _ => exact wf_a2.elim | strs _ => exact wf_a2.elim | r3 _ => exact wf_a2.elim | r4 _ => exact wf_a2.elim | ints kk_a2 a2 =>
  obtain ⟨rfl, wf_a2⟩ := wf_a2
  obtain ⟨a3z, ar_a3, rfl, wf_a3, wl_a3, wn_a3⟩ := q0_3
  cases ar_a3 with | bools _ => exact wf_a3.elim | strs _ => exact wf_a3.elim | r3 _ => exact wf_a3.elim | r4 _ => exact wf_a3.elim | ints kk_a3 a3 =>
  obtain ⟨rfl, wf_a3⟩ := wf_a3
  obtain ⟨a4z, ar_a4, rfl, wf_a4, wl_a4, wn_a4⟩ := q0_4
  cases ar_a4 with | bools _ => exact wf_a4.elim | strs _ => exact wf_a4.elim | r3 _ => exact wf_a4.elim | r4 _ => exact wf_a4.elim | ints kk_a4 a4 =>
  obtain ⟨rfl, wf_a4⟩ := wf_a4
  obtain ⟨b, rfl, w_b⟩ := h1
  have hl_a1 : (a1.length : Int) ≤ 9223372036854775807 := by simp only [Arr.len, maxLen] at wl_a1; omega
  have hl_a2 : (a2.length : Int) ≤ 9223372036854775807 := by simp only [Arr.len, maxLen] at wl_a2; omega
  have hl_a3 : (a3.length : Int) ≤ 9223372036854775807 := by simp only [Arr.len, maxLen] at wl_a3; omega
  have hl_a4 : (a4.length : Int) ≤ 9223372036854775807 := by simp only [Arr.len, maxLen] at wl_a4; omega
  exact ⟨2000000 + 11, law_UniformOf 2000000 (by omega) a0 a1z a1 a2z a2 a3z a3 a4z a4 b hl_a1 hl_a2 hl_a3 hl_a4⟩
set_option maxRecDepth 100000 in
theorem lifted (os : Os) (started : os.Started) (H : Type) (enc : TypeId × Value → H) :
    ReturnsInHanded {} Tryz.checked os 3 .any (Rows.fnExactUniformOfSpec.pre6 enc Tryz.prog Tryz.f3 Rows.fnExactUniformOfRow.domain false) (Rows.fnExactUniformOfSpec.post enc Tryz.prog Tryz.f3 false true false false) := by
  refine returns_true (C := Tryz.checked) (A := An) (tb := 4) ownKnob0 started (by kernel_rfl) Tryz.func3
    (ChangeSpec.witness6 (enc := enc) (C := Tryz.checked) false ⟨#[], #[.agg #[.int .i64 0, .slice none 0 0, .slice none 0 0, .slice none 0 0, .slice none 0 0], .int .i64 0], []⟩ 8 (by kernel_rfl) (by kernel_rfl) (by kernel_rfl) (by kernel_rfl))
    good withExt rfl laidOut0 (by kernel_rfl) (by kernel_rfl) (by kernel_rfl) rfl (fun ds h => ?_) hev
  match ds, h with
  | [d0, d1], _ => rfl
theorem andB {a b : Bool} (ha : a = true) (hb : b = true) : (a && b) = true := by rw [ha, hb]; rfl
theorem j0 : (Rows.fnExactUniformOfRow.wf (OpenSpec.ofChange Rows.fnExactUniformOfSpec)) = true := by kernel_rfl
theorem j1 : (laidOutB Tryz.pinned.checked.prog) = true := by kernel_rfl
theorem j2 : (mapsRowed Tryz.pinned.checked.prog) = true := by kernel_rfl
theorem j3 : (Tryz.f3.params.all (Tryz.pinned.checked.prog.readableRec ·)) = true := by kernel_rfl
theorem j4 : (namedTie Tryz.pinned.checked.prog Rows.fnExactUniformOfRow.named Rows.fnExactUniformOfSpec.vars) = true := by kernel_rfl
theorem j5 : ((Rows.fnExactUniformOfRow.stops == [])) = true := by kernel_rfl
theorem j6 : ((Tryz.pinned.checked.prog.stops == [])) = true := by kernel_rfl
theorem j7 : ((Rows.fnExactUniformOfRow.knobs == [])) = true := by kernel_rfl
theorem j8 : ((Tryz.pinned.checked.prog.stopKnobs == [])) = true := by kernel_rfl
theorem j9 : ((Rows.fnExactUniformOfRow.inPlace == Tryz.pinned.checked.prog.inPlace 3)) = true := by kernel_rfl
theorem j10 : ((Rows.fnExactUniformOfRow.unfollowed == Tryz.pinned.checked.prog.unfollowed 3)) = true := by kernel_rfl
theorem j11 : ((Rows.fnExactUniformOfRow.recurses == Tryz.pinned.checked.prog.recurses 3)) = true := by kernel_rfl
theorem j12 : ((Rows.fnExactUniformOfRow.named == Tryz.pinned.checked.prog.varsNamed 3)) = true := by kernel_rfl
theorem j13 : ((Rows.fnExactUniformOfRow.maps == (Tryz.f3.params.toList ++ Rows.fnExactUniformOfSpec.plain.varTypes Tryz.pinned.checked.prog).any (Tryz.pinned.checked.prog.mapsRec ·))) = true := by kernel_rfl
theorem j14 : ((Rows.fnExactUniformOfRow.ifaces == (Tryz.f3.params.toList ++ Rows.fnExactUniformOfSpec.plain.varTypes Tryz.pinned.checked.prog).any (Tryz.pinned.checked.prog.ifacesRec ·))) = true := by kernel_rfl
theorem j15 : ((Rows.fnExactUniformOfRow.mapsOut == Tryz.pinned.checked.prog.mapsAmong Tryz.f3.resultTypes.toList)) = true := by kernel_rfl
theorem j16 : ((Rows.fnExactUniformOfRow.loops == (Tryz.f3.params.toList ++ Rows.fnExactUniformOfSpec.plain.varTypes Tryz.pinned.checked.prog).any (Tryz.pinned.checked.prog.loopsFrom ·))) = true := by kernel_rfl
theorem j17 : ((Rows.fnExactUniformOfRow.wideKeys == (Tryz.f3.params.toList ++ Rows.fnExactUniformOfSpec.plain.varTypes Tryz.pinned.checked.prog ++ Tryz.f3.resultTypes.toList).any (Tryz.pinned.checked.prog.wideKeysFrom ·))) = true := by kernel_rfl
theorem j18 : (Rows.fnExactUniformOfSpec.vars.all (Tryz.pinned.checked.prog.varReadable ·)) = true := by kernel_rfl
theorem j19 : (Tryz.f3.resultTypes.all (fun t => Tryz.pinned.checked.prog.readableRec t && decide (t < Tryz.pinned.checked.prog.types.size))) = true := by kernel_rfl
theorem j20 : ((Rows.fnExactUniformOfRow.ifacesOut == Tryz.f3.resultTypes.toList.any (Tryz.pinned.checked.prog.ifacesRec ·))) = true := by kernel_rfl
theorem j21 : ((Rows.fnExactUniformOfRow.loopsOut == Tryz.f3.resultTypes.toList.any (Tryz.pinned.checked.prog.loopsFrom ·))) = true := by kernel_rfl
theorem j22 : ((Rows.fnExactUniformOfRow.plainKeys == Tryz.pinned.checked.prog.plainKeys)) = true := by kernel_rfl
theorem j23 : (Rows.fnExactUniformOfRow.shortTexts.isNone) = true := by kernel_rfl
theorem j24 : (Tryz.pinned.checked.prog.stopsHeard) = true := by kernel_rfl
theorem j25 : (Tryz.pinned.checked.prog.mayEnter) = true := by kernel_rfl
theorem j26 : ((Rows.fnExactUniformOfRow.lifted == Tryz.pinned.checked.prog.liftsFinal)) = true := by kernel_rfl
theorem j27 : ((Tryz.pinned.checked.prog.make == some Rows.fnExactUniformOfRow.make)) = true := by kernel_rfl
theorem j28 : ((Rows.fnExactUniformOfRow.kinds == (if Rows.fnExactUniformOfRow.domain.isEmpty then [] else Tryz.f3.params.toList.map fun t => match Tryz.pinned.checked.prog.underlying t with | some (.int k) => some k | _ => none))) = true := by kernel_rfl
theorem j29 : ((Rows.fnExactUniformOfRow.pinned == Rows.fnExactUniformOfRow.pinnedBy)) = true := by kernel_rfl
theorem j30 : ((Rows.fnExactUniformOfRow.veiled == (Tryz.f3.params.toList ++ Rows.fnExactUniformOfSpec.plain.varTypes Tryz.pinned.checked.prog ++ Tryz.f3.resultTypes.toList).any (Tryz.pinned.checked.prog.veiledRec ·))) = true := by kernel_rfl
theorem j31 : (Rows.fnExactUniformOfRow.veiledFits Tryz.pinned.checked.prog Tryz.f3.params.toList (Tryz.f3.params.toList ++ Rows.fnExactUniformOfSpec.plain.varTypes Tryz.pinned.checked.prog ++ Tryz.f3.resultTypes.toList)) = true := by kernel_rfl
set_option maxRecDepth 100000 in
theorem facts : joinedFacts Tryz.pinned.checked.prog 3 Tryz.f3 Rows.fnExactUniformOfSpec Rows.fnExactUniformOfRow = true := by
  unfold joinedFacts
  exact andB (andB (andB (andB (andB (andB (andB (andB (andB (andB (andB (andB (andB (andB (andB (andB (andB (andB (andB (andB (andB (andB (andB (andB (andB (andB (andB (andB (andB (andB (andB j0 j1) j2) j3) j4) j5) j6) j7) j8) j9) j10) j11) j12) j13) j14) j15) j16) j17) j18) j19) j20) j21) j22) j23) j24) j25) j26) j27) j28) j29) j30) j31
theorem over : Rows.fnExactUniformOfRow.holds Tryz.pinned (OpenSpec.ofChange Rows.fnExactUniformOfSpec) :=
  OpenClaim.holds_of_wide 3 Tryz.f3 rfl rfl rfl rfl rfl rfl rfl ⟨rfl, rfl, rfl, rfl, rfl⟩ rfl rfl rfl rfl rfl (by kernel_rfl) Tryz.func3 facts
    (of_decide_eq_true (by kernel_rfl)) (by unfold Func.isWrapper; first | (rw [if_pos (by decide +kernel)]; kernel_rfl) | (rw [if_neg (by decide +kernel)]; exact ⟨rfl, rfl⟩))
    (fun os started H enc _ => lifted os started H enc)
end Go.Proofs.YtfgccfajhedgdaaGreat.fnExactUniformOf
namespace Go.Proofs.YtfgccfajhedgdaaGreat
/-- The row, under a short name, for the claim. -/
theorem fnExactUniformOf_holds : Rows.FnExactUniformOfSaid := fnExactUniformOf.over
#print axioms fnExactUniformOf_holds
end Go.Proofs.YtfgccfajhedgdaaGreat
