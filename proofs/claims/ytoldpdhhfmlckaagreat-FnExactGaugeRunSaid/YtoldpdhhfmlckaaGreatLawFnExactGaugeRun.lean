/- The law FnExactGaugeRun answers true for every input, and the input reads as it did. No condition. -/
import Derived.Test.YtoldpdhhfmlckaaGreatRows
import Derived.Test.YtoldpdhhfmlckaaGreatQGA1
import Derived.WalkKit
import Derived.ProofKit
namespace Go.Proofs.YtoldpdhhfmlckaaGreat.fnExactGaugeRun
open Go.Ev
set_option linter.unusedVariables false
theorem types : Tryz.f10.params.toList = [74, 77, 3, 3] := by kernel_rfl
set_option maxRecDepth 100000 in
theorem hev (ds : List D) (h : All2 (PFits Tryz.prog) Tryz.f10.params.toList ds) : ∃ k, ev Tryz.prog An k 10 ds = some [.bool true] := by
  rw [types] at h
  cases h with | cons h0 h => cases h with | cons h1 h => cases h with | cons h2 h => cases h with | cons h3 h => cases h with | nil =>
  unfold PFits at h0 h1 h2 h3
  rw [show isAggT Tryz.prog 74 = true by kernel_rfl, if_pos rfl, show cty Tryz.prog 74 = [.int .i64, .sl .r3, .sl (.int .i64), .sl (.int .i64), .sl (.int .i64)] by kernel_rfl] at h0
  obtain ⟨l0, rfl, h0⟩ := h0
  cases h0 with | cons q0_0 h0 =>
  cases h0 with | cons q0_1 h0 =>
  cases h0 with | cons q0_2 h0 =>
  cases h0 with | cons q0_3 h0 =>
  cases h0 with | cons q0_4 h0 =>
  cases h0 with | nil =>
  rw [show isAggT Tryz.prog 77 = true by kernel_rfl, if_pos rfl, show cty Tryz.prog 77 = [.int .i64, .int .i64, .int .i64, .int .i64, .int .i64, .int .i64, .int .i64, .int .i64, .int .i64] by kernel_rfl] at h1
  obtain ⟨l1, rfl, h1⟩ := h1
  cases h1 with | cons q1_0 h1 =>
  cases h1 with | cons q1_1 h1 =>
  cases h1 with | cons q1_2 h1 =>
  cases h1 with | cons q1_3 h1 =>
  cases h1 with | cons q1_4 h1 =>
  cases h1 with | cons q1_5 h1 =>
  cases h1 with | cons q1_6 h1 =>
  cases h1 with | cons q1_7 h1 =>
  cases h1 with | cons q1_8 h1 =>
  cases h1 with | nil =>
  rw [show isAggT Tryz.prog 3 = false by kernel_rfl, if_neg (by simp), show cty Tryz.prog 3 = [.int .i64] by kernel_rfl] at h2
  obtain ⟨c2, hc2, h2⟩ := h2
  cases hc2
  rw [show isAggT Tryz.prog 3 = false by kernel_rfl, if_neg (by simp), show cty Tryz.prog 3 = [.int .i64] by kernel_rfl] at h3
  obtain ⟨c3, hc3, h3⟩ := h3
  cases hc3
  obtain ⟨a0, rfl, w_a0⟩ := q0_0
  obtain ⟨a1z, ar_a1, rfl, wf_a1, wl_a1, wn_a1⟩ := q0_1
  cases ar_a1 with | ints _ _ => exact wf_a1.elim | bools _ => exact wf_a1.elim | strs _ => exact wf_a1.elim | r4 _ => exact wf_a1.elim | r3 a1 =>
  obtain ⟨a2z, ar_a2, rfl, wf_a2, wl_a2, wn_a2⟩ := q0_2
  cases ar_a2 with | bools _ => exact wf_a2.elim | strs _ => exact wf_a2.elim | r3 _ => exact wf_a2.elim | r4 _ => exact wf_a2.elim | ints kk_a2 a2 =>
  obtain ⟨rfl, wf_a2⟩ := wf_a2
  obtain ⟨a3z, ar_a3, rfl, wf_a3, wl_a3, wn_a3⟩ := q0_3
  cases ar_a3 with | bools _ => exact wf_a3.elim | strs _ => exact wf_a3.elim | r3 _ => exact wf_a3.elim | r4 _ => exact wf_a3.elim | ints kk_a3 a3 =>
  obtain ⟨rfl, wf_a3⟩ := wf_a3
  obtain ⟨a4z, ar_a4, rfl, wf_a4, wl_a4, wn_a4⟩ := q0_4
  cases ar_a4 with | bools _ => exact wf_a4.elim | strs _ => exact wf_a4.elim | r3 _ => exact wf_a4.elim | r4 _ => exact wf_a4.elim | ints kk_a4 a4 =>
  obtain ⟨rfl, wf_a4⟩ := wf_a4
  obtain ⟨b0, rfl, w_b0⟩ := q1_0
  obtain ⟨b1, rfl, w_b1⟩ := q1_1
  obtain ⟨b2, rfl, w_b2⟩ := q1_2
  obtain ⟨b3, rfl, w_b3⟩ := q1_3
  obtain ⟨b4, rfl, w_b4⟩ := q1_4
  obtain ⟨b5, rfl, w_b5⟩ := q1_5
  obtain ⟨b6, rfl, w_b6⟩ := q1_6
  obtain ⟨b7, rfl, w_b7⟩ := q1_7
  obtain ⟨b8, rfl, w_b8⟩ := q1_8
  obtain ⟨c, rfl, w_c⟩ := h2
  obtain ⟨d, rfl, w_d⟩ := h3
  have hl_a1 : (a1.length : Int) ≤ 9223372036854775807 := by simp only [Arr.len, maxLen] at wl_a1; omega
  have hl_a2 : (a2.length : Int) ≤ 9223372036854775807 := by simp only [Arr.len, maxLen] at wl_a2; omega
  have hl_a3 : (a3.length : Int) ≤ 9223372036854775807 := by simp only [Arr.len, maxLen] at wl_a3; omega
  have hl_a4 : (a4.length : Int) ≤ 9223372036854775807 := by simp only [Arr.len, maxLen] at wl_a4; omega
  exact ⟨2000000 + 14, law_GaugeRun 2000000 (by omega) a0 a1z a1 a2z a2 a3z a3 a4z a4 b0 b1 b2 b3 b4 b5 b6 b7 b8 c d hl_a1 hl_a2 hl_a3 hl_a4⟩
set_option maxRecDepth 100000 in
theorem lifted (os : Os) (started : os.Started) (H : Type) (enc : TypeId × Value → H) :
    ReturnsInHanded {} Tryz.checked os 10 .any (Rows.fnExactGaugeRunSpec.pre6 enc Tryz.prog Tryz.f10 Rows.fnExactGaugeRunRow.domain false) (Rows.fnExactGaugeRunSpec.post enc Tryz.prog Tryz.f10 false true false false) := by
  refine returns_true (C := Tryz.checked) (A := An) (tb := 4) ownKnob0 started (by kernel_rfl) Tryz.func10
    (ChangeSpec.witness6 (enc := enc) (C := Tryz.checked) false ⟨#[], #[.agg #[.int .i64 0, .slice none 0 0, .slice none 0 0, .slice none 0 0, .slice none 0 0], .agg #[.int .i64 0, .int .i64 0, .int .i64 0, .int .i64 0, .int .i64 0, .int .i64 0, .int .i64 0, .int .i64 0, .int .i64 0], .int .i64 0, .int .i64 0], []⟩ 8 (by kernel_rfl) (by kernel_rfl) (by kernel_rfl) (by kernel_rfl))
    good withExt rfl laidOut0 (by kernel_rfl) (by kernel_rfl) (by kernel_rfl) rfl (fun ds h => ?_) hev
  match ds, h with
  | [d0, d1, d2, d3], _ => rfl
theorem andB {a b : Bool} (ha : a = true) (hb : b = true) : (a && b) = true := by rw [ha, hb]; rfl
theorem j0 : (Rows.fnExactGaugeRunRow.wf (OpenSpec.ofChange Rows.fnExactGaugeRunSpec)) = true := by kernel_rfl
theorem j1 : (laidOutB Tryz.pinned.checked.prog) = true := by kernel_rfl
theorem j2 : (mapsRowed Tryz.pinned.checked.prog) = true := by kernel_rfl
theorem j3 : (Tryz.f10.params.all (Tryz.pinned.checked.prog.readableRec ·)) = true := by kernel_rfl
theorem j4 : (namedTie Tryz.pinned.checked.prog Rows.fnExactGaugeRunRow.named Rows.fnExactGaugeRunSpec.vars) = true := by kernel_rfl
theorem j5 : ((Rows.fnExactGaugeRunRow.stops == [])) = true := by kernel_rfl
theorem j6 : ((Tryz.pinned.checked.prog.stops == [])) = true := by kernel_rfl
theorem j7 : ((Rows.fnExactGaugeRunRow.knobs == [])) = true := by kernel_rfl
theorem j8 : ((Tryz.pinned.checked.prog.stopKnobs == [])) = true := by kernel_rfl
theorem j9 : ((Rows.fnExactGaugeRunRow.inPlace == Tryz.pinned.checked.prog.inPlace 10)) = true := by kernel_rfl
theorem j10 : ((Rows.fnExactGaugeRunRow.unfollowed == Tryz.pinned.checked.prog.unfollowed 10)) = true := by kernel_rfl
theorem j11 : ((Rows.fnExactGaugeRunRow.recurses == Tryz.pinned.checked.prog.recurses 10)) = true := by kernel_rfl
theorem j12 : ((Rows.fnExactGaugeRunRow.named == Tryz.pinned.checked.prog.varsNamed 10)) = true := by kernel_rfl
theorem j13 : ((Rows.fnExactGaugeRunRow.maps == (Tryz.f10.params.toList ++ Rows.fnExactGaugeRunSpec.plain.varTypes Tryz.pinned.checked.prog).any (Tryz.pinned.checked.prog.mapsRec ·))) = true := by kernel_rfl
theorem j14 : ((Rows.fnExactGaugeRunRow.ifaces == (Tryz.f10.params.toList ++ Rows.fnExactGaugeRunSpec.plain.varTypes Tryz.pinned.checked.prog).any (Tryz.pinned.checked.prog.ifacesRec ·))) = true := by kernel_rfl
theorem j15 : ((Rows.fnExactGaugeRunRow.mapsOut == Tryz.pinned.checked.prog.mapsAmong Tryz.f10.resultTypes.toList)) = true := by kernel_rfl
theorem j16 : ((Rows.fnExactGaugeRunRow.loops == (Tryz.f10.params.toList ++ Rows.fnExactGaugeRunSpec.plain.varTypes Tryz.pinned.checked.prog).any (Tryz.pinned.checked.prog.loopsFrom ·))) = true := by kernel_rfl
theorem j17 : ((Rows.fnExactGaugeRunRow.wideKeys == (Tryz.f10.params.toList ++ Rows.fnExactGaugeRunSpec.plain.varTypes Tryz.pinned.checked.prog ++ Tryz.f10.resultTypes.toList).any (Tryz.pinned.checked.prog.wideKeysFrom ·))) = true := by kernel_rfl
theorem j18 : (Rows.fnExactGaugeRunSpec.vars.all (Tryz.pinned.checked.prog.varReadable ·)) = true := by kernel_rfl
theorem j19 : (Tryz.f10.resultTypes.all (fun t => Tryz.pinned.checked.prog.readableRec t && decide (t < Tryz.pinned.checked.prog.types.size))) = true := by kernel_rfl
theorem j20 : ((Rows.fnExactGaugeRunRow.ifacesOut == Tryz.f10.resultTypes.toList.any (Tryz.pinned.checked.prog.ifacesRec ·))) = true := by kernel_rfl
theorem j21 : ((Rows.fnExactGaugeRunRow.loopsOut == Tryz.f10.resultTypes.toList.any (Tryz.pinned.checked.prog.loopsFrom ·))) = true := by kernel_rfl
theorem j22 : ((Rows.fnExactGaugeRunRow.plainKeys == Tryz.pinned.checked.prog.plainKeys)) = true := by kernel_rfl
theorem j23 : (Rows.fnExactGaugeRunRow.shortTexts.isNone) = true := by kernel_rfl
theorem j24 : (Tryz.pinned.checked.prog.stopsHeard) = true := by kernel_rfl
theorem j25 : (Tryz.pinned.checked.prog.mayEnter) = true := by kernel_rfl
theorem j26 : ((Rows.fnExactGaugeRunRow.lifted == Tryz.pinned.checked.prog.liftsFinal)) = true := by kernel_rfl
theorem j27 : ((Tryz.pinned.checked.prog.make == some Rows.fnExactGaugeRunRow.make)) = true := by kernel_rfl
theorem j28 : ((Rows.fnExactGaugeRunRow.kinds == (if Rows.fnExactGaugeRunRow.domain.isEmpty then [] else Tryz.f10.params.toList.map fun t => match Tryz.pinned.checked.prog.underlying t with | some (.int k) => some k | _ => none))) = true := by kernel_rfl
theorem j29 : ((Rows.fnExactGaugeRunRow.pinned == Rows.fnExactGaugeRunRow.pinnedBy)) = true := by kernel_rfl
theorem j30 : ((Rows.fnExactGaugeRunRow.veiled == (Tryz.f10.params.toList ++ Rows.fnExactGaugeRunSpec.plain.varTypes Tryz.pinned.checked.prog ++ Tryz.f10.resultTypes.toList).any (Tryz.pinned.checked.prog.veiledRec ·))) = true := by kernel_rfl
theorem j31 : (Rows.fnExactGaugeRunRow.veiledFits Tryz.pinned.checked.prog Tryz.f10.params.toList (Tryz.f10.params.toList ++ Rows.fnExactGaugeRunSpec.plain.varTypes Tryz.pinned.checked.prog ++ Tryz.f10.resultTypes.toList)) = true := by kernel_rfl
set_option maxRecDepth 100000 in
theorem facts : joinedFacts Tryz.pinned.checked.prog 10 Tryz.f10 Rows.fnExactGaugeRunSpec Rows.fnExactGaugeRunRow = true := by
  unfold joinedFacts
  exact andB (andB (andB (andB (andB (andB (andB (andB (andB (andB (andB (andB (andB (andB (andB (andB (andB (andB (andB (andB (andB (andB (andB (andB (andB (andB (andB (andB (andB (andB (andB j0 j1) j2) j3) j4) j5) j6) j7) j8) j9) j10) j11) j12) j13) j14) j15) j16) j17) j18) j19) j20) j21) j22) j23) j24) j25) j26) j27) j28) j29) j30) j31
theorem over : Rows.fnExactGaugeRunRow.holds Tryz.pinned (OpenSpec.ofChange Rows.fnExactGaugeRunSpec) :=
  OpenClaim.holds_of_wide 10 Tryz.f10 rfl rfl rfl rfl rfl rfl rfl ⟨rfl, rfl, rfl, rfl, rfl⟩ rfl rfl rfl rfl rfl (by kernel_rfl) Tryz.func10 facts
    (of_decide_eq_true (by kernel_rfl)) (by unfold Func.isWrapper; first | (rw [if_pos (by decide +kernel)]; kernel_rfl) | (rw [if_neg (by decide +kernel)]; exact ⟨rfl, rfl⟩))
    (fun os started H enc _ => lifted os started H enc)
end Go.Proofs.YtoldpdhhfmlckaaGreat.fnExactGaugeRun
namespace Go.Proofs.YtoldpdhhfmlckaaGreat
/-- The row, under a short name, for the claim. -/
theorem fnExactGaugeRun_holds : Rows.FnExactGaugeRunSaid := fnExactGaugeRun.over
#print axioms fnExactGaugeRun_holds
end Go.Proofs.YtoldpdhhfmlckaaGreat
