/- The law FnFrames answers true for every input, and the input reads as it did. No condition. -/
import Derived.Test.YtcaapedadpnjoaaRows
import Derived.Test.YtcaapedadpnjoaaQF3
import Derived.WalkKit
import Derived.ProofKit
namespace Go.Proofs.Ytcaapedadpnjoaa.fnFrames
open Go.Ev
set_option linter.unusedVariables false
theorem types : Try.f8.params.toList = [22] := by kernel_rfl
set_option maxRecDepth 100000 in
theorem hev (ds : List D) (h : All2 (PFits Try.prog) Try.f8.params.toList ds) : ∃ k, ev Try.prog An k 8 ds = some [.bool true] := by
  rw [types] at h
  cases h with | cons h0 h => cases h with | nil =>
  unfold PFits at h0
  rw [show isAggT Try.prog 22 = false by kernel_rfl, if_neg (by simp), show cty Try.prog 22 = [.sl (.int IntKind.u8)] by kernel_rfl] at h0
  obtain ⟨c0, hc0, h0⟩ := h0
  cases hc0
  obtain ⟨az, ar_a, rfl, wf_a, wl_a, wn_a⟩ := h0
  cases ar_a with | bools _ => exact wf_a.elim | strs _ => exact wf_a.elim | r3 _ => exact wf_a.elim | r4 _ => exact wf_a.elim | ints kk_a a =>
  obtain ⟨rfl, wf_a⟩ := wf_a
  have hl_a : (a.length : Int) ≤ 9223372036854775807 := by simp only [Arr.len, maxLen] at wl_a; omega
  exact ⟨2000000 + 13, law_FnFrames 2000000 (by omega) az a⟩
set_option maxRecDepth 100000 in
theorem lifted (os : Os) (started : os.Started) (H : Type) (enc : TypeId × Value → H) :
    ReturnsInHanded {} Try.checked os 8 .any (Rows.fnFramesSpec.pre6 enc Try.prog Try.f8 Rows.fnFramesRow.domain false) (Rows.fnFramesSpec.post enc Try.prog Try.f8 false true false false) := by
  refine returns_true (C := Try.checked) (A := An) (tb := 4) ownKnob0 started (by kernel_rfl) Try.func8
    (ChangeSpec.witness6 (enc := enc) (C := Try.checked) false ⟨#[], #[.slice none 0 0], []⟩ 8 (by kernel_rfl) (by kernel_rfl) (by kernel_rfl) (by kernel_rfl))
    good noExt rfl laidOut0 (by kernel_rfl) (by kernel_rfl) (by kernel_rfl) rfl (fun ds h => ?_) hev
  match ds, h with
  | [d0], _ => rfl
theorem andB {a b : Bool} (ha : a = true) (hb : b = true) : (a && b) = true := by rw [ha, hb]; rfl
theorem j0 : (Rows.fnFramesRow.wf (OpenSpec.ofChange Rows.fnFramesSpec)) = true := by kernel_rfl
theorem j1 : (laidOutB Try.pinned.checked.prog) = true := by kernel_rfl
theorem j2 : (mapsRowed Try.pinned.checked.prog) = true := by kernel_rfl
theorem j3 : (Try.f8.params.all (Try.pinned.checked.prog.readableRec ·)) = true := by kernel_rfl
theorem j4 : (namedTie Try.pinned.checked.prog Rows.fnFramesRow.named Rows.fnFramesSpec.vars) = true := by kernel_rfl
theorem j5 : ((Rows.fnFramesRow.stops == [])) = true := by kernel_rfl
theorem j6 : ((Try.pinned.checked.prog.stops == [])) = true := by kernel_rfl
theorem j7 : ((Rows.fnFramesRow.knobs == [])) = true := by kernel_rfl
theorem j8 : ((Try.pinned.checked.prog.stopKnobs == [])) = true := by kernel_rfl
theorem j9 : ((Rows.fnFramesRow.inPlace == Try.pinned.checked.prog.inPlace 8)) = true := by kernel_rfl
theorem j10 : ((Rows.fnFramesRow.unfollowed == Try.pinned.checked.prog.unfollowed 8)) = true := by kernel_rfl
theorem j11 : ((Rows.fnFramesRow.recurses == Try.pinned.checked.prog.recurses 8)) = true := by kernel_rfl
theorem j12 : ((Rows.fnFramesRow.named == Try.pinned.checked.prog.varsNamed 8)) = true := by kernel_rfl
theorem j13 : ((Rows.fnFramesRow.maps == (Try.f8.params.toList ++ Rows.fnFramesSpec.plain.varTypes Try.pinned.checked.prog).any (Try.pinned.checked.prog.mapsRec ·))) = true := by kernel_rfl
theorem j14 : ((Rows.fnFramesRow.ifaces == (Try.f8.params.toList ++ Rows.fnFramesSpec.plain.varTypes Try.pinned.checked.prog).any (Try.pinned.checked.prog.ifacesRec ·))) = true := by kernel_rfl
theorem j15 : ((Rows.fnFramesRow.mapsOut == Try.pinned.checked.prog.mapsAmong Try.f8.resultTypes.toList)) = true := by kernel_rfl
theorem j16 : ((Rows.fnFramesRow.loops == (Try.f8.params.toList ++ Rows.fnFramesSpec.plain.varTypes Try.pinned.checked.prog).any (Try.pinned.checked.prog.loopsFrom ·))) = true := by kernel_rfl
theorem j17 : ((Rows.fnFramesRow.wideKeys == (Try.f8.params.toList ++ Rows.fnFramesSpec.plain.varTypes Try.pinned.checked.prog ++ Try.f8.resultTypes.toList).any (Try.pinned.checked.prog.wideKeysFrom ·))) = true := by kernel_rfl
theorem j18 : (Rows.fnFramesSpec.vars.all (Try.pinned.checked.prog.varReadable ·)) = true := by kernel_rfl
theorem j19 : (Try.f8.resultTypes.all (fun t => Try.pinned.checked.prog.readableRec t && decide (t < Try.pinned.checked.prog.types.size))) = true := by kernel_rfl
theorem j20 : ((Rows.fnFramesRow.ifacesOut == Try.f8.resultTypes.toList.any (Try.pinned.checked.prog.ifacesRec ·))) = true := by kernel_rfl
theorem j21 : ((Rows.fnFramesRow.loopsOut == Try.f8.resultTypes.toList.any (Try.pinned.checked.prog.loopsFrom ·))) = true := by kernel_rfl
theorem j22 : ((Rows.fnFramesRow.plainKeys == Try.pinned.checked.prog.plainKeys)) = true := by kernel_rfl
theorem j23 : (Rows.fnFramesRow.shortTexts.isNone) = true := by kernel_rfl
theorem j24 : (Try.pinned.checked.prog.stopsHeard) = true := by kernel_rfl
theorem j25 : (Try.pinned.checked.prog.mayEnter) = true := by kernel_rfl
theorem j26 : ((Rows.fnFramesRow.lifted == Try.pinned.checked.prog.liftsFinal)) = true := by kernel_rfl
theorem j27 : ((Try.pinned.checked.prog.make == some Rows.fnFramesRow.make)) = true := by kernel_rfl
theorem j28 : ((Rows.fnFramesRow.kinds == (if Rows.fnFramesRow.domain.isEmpty then [] else Try.f8.params.toList.map fun t => match Try.pinned.checked.prog.underlying t with | some (.int k) => some k | _ => none))) = true := by kernel_rfl
theorem j29 : ((Rows.fnFramesRow.pinned == Rows.fnFramesRow.pinnedBy)) = true := by kernel_rfl
theorem j30 : ((Rows.fnFramesRow.veiled == (Try.f8.params.toList ++ Rows.fnFramesSpec.plain.varTypes Try.pinned.checked.prog ++ Try.f8.resultTypes.toList).any (Try.pinned.checked.prog.veiledRec ·))) = true := by kernel_rfl
theorem j31 : (Rows.fnFramesRow.veiledFits Try.pinned.checked.prog Try.f8.params.toList (Try.f8.params.toList ++ Rows.fnFramesSpec.plain.varTypes Try.pinned.checked.prog ++ Try.f8.resultTypes.toList)) = true := by kernel_rfl
set_option maxRecDepth 100000 in
theorem facts : joinedFacts Try.pinned.checked.prog 8 Try.f8 Rows.fnFramesSpec Rows.fnFramesRow = true := by
  unfold joinedFacts
  exact andB (andB (andB (andB (andB (andB (andB (andB (andB (andB (andB (andB (andB (andB (andB (andB (andB (andB (andB (andB (andB (andB (andB (andB (andB (andB (andB (andB (andB (andB (andB j0 j1) j2) j3) j4) j5) j6) j7) j8) j9) j10) j11) j12) j13) j14) j15) j16) j17) j18) j19) j20) j21) j22) j23) j24) j25) j26) j27) j28) j29) j30) j31
theorem over : Rows.fnFramesRow.holds Try.pinned (OpenSpec.ofChange Rows.fnFramesSpec) :=
  OpenClaim.holds_of_wide 8 Try.f8 rfl rfl rfl rfl rfl rfl rfl ⟨rfl, rfl, rfl, rfl, rfl⟩ rfl rfl rfl rfl rfl (by kernel_rfl) Try.func8 facts
    (of_decide_eq_true (by kernel_rfl)) (by unfold Func.isWrapper; first | (rw [if_pos (by decide +kernel)]; kernel_rfl) | (rw [if_neg (by decide +kernel)]; exact ⟨rfl, rfl⟩))
    (fun os started H enc _ => lifted os started H enc)
end Go.Proofs.Ytcaapedadpnjoaa.fnFrames
namespace Go.Proofs.Ytcaapedadpnjoaa
/-- The row, under a short name, for the claim. -/
theorem fnFrames_holds : Rows.FnFramesSaid := fnFrames.over
#print axioms fnFrames_holds
end Go.Proofs.Ytcaapedadpnjoaa
