/- The law FnStepAll answers true for every input, and the input reads as it did. No condition. -/
import Derived.Test.YtcaapedadpnjoaaRows
import Derived.Test.YtcaapedadpnjoaaQS2
import Derived.WalkKit
import Derived.ProofKit
namespace Go.Proofs.Ytcaapedadpnjoaa.fnStepAll
open Go.Ev
set_option linter.unusedVariables false
theorem types : Try.f6.params.toList = [22] := by kernel_rfl
set_option maxRecDepth 100000 in
theorem hev (ds : List D) (h : All2 (PFits Try.prog) Try.f6.params.toList ds) : ∃ k, ev Try.prog An k 6 ds = some [.bool true] := by
  rw [types] at h
  cases h with | cons h0 h => cases h with | nil =>
  unfold PFits at h0
  rw [show isAggT Try.prog 22 = false by kernel_rfl, if_neg (by simp), show cty Try.prog 22 = [.sl (.int IntKind.u8)] by kernel_rfl] at h0
  obtain ⟨c0, hc0, h0⟩ := h0
  cases hc0
  obtain ⟨az, ar_a, rfl, wf_a, wl_a, wn_a⟩ := h0
  cases ar_a with | bools _ => exact wf_a.elim | strs _ => exact wf_a.elim | r3 _ => exact wf_a.elim | r4 _ => exact wf_a.elim | ints kk_a a =>
  obtain ⟨rfl, wf_a⟩ := wf_a
  have hl_a : (a.length : Int) ≤ 9223372036854775807 := by simp only [Arr.len, maxLen] at wl_a; omega
  exact ⟨2000000 + 13, law_FnStepAll 2000000 (by omega) az a⟩
set_option maxRecDepth 100000 in
theorem lifted (os : Os) (started : os.Started) (H : Type) (enc : TypeId × Value → H) :
    ReturnsInHanded {} Try.checked os 6 .any (Rows.fnStepAllSpec.pre6 enc Try.prog Try.f6 Rows.fnStepAllRow.domain false) (Rows.fnStepAllSpec.post enc Try.prog Try.f6 false true false false) := by
  refine returns_true (C := Try.checked) (A := An) (tb := 4) ownKnob0 started (by kernel_rfl) Try.func6
    (ChangeSpec.witness6 (enc := enc) (C := Try.checked) false ⟨#[], #[.slice none 0 0], []⟩ 8 (by kernel_rfl) (by kernel_rfl) (by kernel_rfl) (by kernel_rfl))
    good noExt rfl laidOut0 (by kernel_rfl) (by kernel_rfl) (by kernel_rfl) rfl (fun ds h => ?_) hev
  match ds, h with
  | [d0], _ => rfl
theorem andB {a b : Bool} (ha : a = true) (hb : b = true) : (a && b) = true := by rw [ha, hb]; rfl
theorem j0 : (Rows.fnStepAllRow.wf (OpenSpec.ofChange Rows.fnStepAllSpec)) = true := by kernel_rfl
theorem j1 : (laidOutB Try.pinned.checked.prog) = true := by kernel_rfl
theorem j2 : (mapsRowed Try.pinned.checked.prog) = true := by kernel_rfl
theorem j3 : (Try.f6.params.all (Try.pinned.checked.prog.readableRec ·)) = true := by kernel_rfl
theorem j4 : (namedTie Try.pinned.checked.prog Rows.fnStepAllRow.named Rows.fnStepAllSpec.vars) = true := by kernel_rfl
theorem j5 : ((Rows.fnStepAllRow.stops == [])) = true := by kernel_rfl
theorem j6 : ((Try.pinned.checked.prog.stops == [])) = true := by kernel_rfl
theorem j7 : ((Rows.fnStepAllRow.knobs == [])) = true := by kernel_rfl
theorem j8 : ((Try.pinned.checked.prog.stopKnobs == [])) = true := by kernel_rfl
theorem j9 : ((Rows.fnStepAllRow.inPlace == Try.pinned.checked.prog.inPlace 6)) = true := by kernel_rfl
theorem j10 : ((Rows.fnStepAllRow.unfollowed == Try.pinned.checked.prog.unfollowed 6)) = true := by kernel_rfl
theorem j11 : ((Rows.fnStepAllRow.recurses == Try.pinned.checked.prog.recurses 6)) = true := by kernel_rfl
theorem j12 : ((Rows.fnStepAllRow.named == Try.pinned.checked.prog.varsNamed 6)) = true := by kernel_rfl
theorem j13 : ((Rows.fnStepAllRow.maps == (Try.f6.params.toList ++ Rows.fnStepAllSpec.plain.varTypes Try.pinned.checked.prog).any (Try.pinned.checked.prog.mapsRec ·))) = true := by kernel_rfl
theorem j14 : ((Rows.fnStepAllRow.ifaces == (Try.f6.params.toList ++ Rows.fnStepAllSpec.plain.varTypes Try.pinned.checked.prog).any (Try.pinned.checked.prog.ifacesRec ·))) = true := by kernel_rfl
theorem j15 : ((Rows.fnStepAllRow.mapsOut == Try.pinned.checked.prog.mapsAmong Try.f6.resultTypes.toList)) = true := by kernel_rfl
theorem j16 : ((Rows.fnStepAllRow.loops == (Try.f6.params.toList ++ Rows.fnStepAllSpec.plain.varTypes Try.pinned.checked.prog).any (Try.pinned.checked.prog.loopsFrom ·))) = true := by kernel_rfl
theorem j17 : ((Rows.fnStepAllRow.wideKeys == (Try.f6.params.toList ++ Rows.fnStepAllSpec.plain.varTypes Try.pinned.checked.prog ++ Try.f6.resultTypes.toList).any (Try.pinned.checked.prog.wideKeysFrom ·))) = true := by kernel_rfl
theorem j18 : (Rows.fnStepAllSpec.vars.all (Try.pinned.checked.prog.varReadable ·)) = true := by kernel_rfl
theorem j19 : (Try.f6.resultTypes.all (fun t => Try.pinned.checked.prog.readableRec t && decide (t < Try.pinned.checked.prog.types.size))) = true := by kernel_rfl
theorem j20 : ((Rows.fnStepAllRow.ifacesOut == Try.f6.resultTypes.toList.any (Try.pinned.checked.prog.ifacesRec ·))) = true := by kernel_rfl
theorem j21 : ((Rows.fnStepAllRow.loopsOut == Try.f6.resultTypes.toList.any (Try.pinned.checked.prog.loopsFrom ·))) = true := by kernel_rfl
theorem j22 : ((Rows.fnStepAllRow.plainKeys == Try.pinned.checked.prog.plainKeys)) = true := by kernel_rfl
theorem j23 : (Rows.fnStepAllRow.shortTexts.isNone) = true := by kernel_rfl
theorem j24 : (Try.pinned.checked.prog.stopsHeard) = true := by kernel_rfl
theorem j25 : (Try.pinned.checked.prog.mayEnter) = true := by kernel_rfl
theorem j26 : ((Rows.fnStepAllRow.lifted == Try.pinned.checked.prog.liftsFinal)) = true := by kernel_rfl
theorem j27 : ((Try.pinned.checked.prog.make == some Rows.fnStepAllRow.make)) = true := by kernel_rfl
theorem j28 : ((Rows.fnStepAllRow.kinds == (if Rows.fnStepAllRow.domain.isEmpty then [] else Try.f6.params.toList.map fun t => match Try.pinned.checked.prog.underlying t with | some (.int k) => some k | _ => none))) = true := by kernel_rfl
theorem j29 : ((Rows.fnStepAllRow.pinned == Rows.fnStepAllRow.pinnedBy)) = true := by kernel_rfl
theorem j30 : ((Rows.fnStepAllRow.veiled == (Try.f6.params.toList ++ Rows.fnStepAllSpec.plain.varTypes Try.pinned.checked.prog ++ Try.f6.resultTypes.toList).any (Try.pinned.checked.prog.veiledRec ·))) = true := by kernel_rfl
theorem j31 : (Rows.fnStepAllRow.veiledFits Try.pinned.checked.prog Try.f6.params.toList (Try.f6.params.toList ++ Rows.fnStepAllSpec.plain.varTypes Try.pinned.checked.prog ++ Try.f6.resultTypes.toList)) = true := by kernel_rfl
set_option maxRecDepth 100000 in
theorem facts : joinedFacts Try.pinned.checked.prog 6 Try.f6 Rows.fnStepAllSpec Rows.fnStepAllRow = true := by
  unfold joinedFacts
  exact andB (andB (andB (andB (andB (andB (andB (andB (andB (andB (andB (andB (andB (andB (andB (andB (andB (andB (andB (andB (andB (andB (andB (andB (andB (andB (andB (andB (andB (andB (andB j0 j1) j2) j3) j4) j5) j6) j7) j8) j9) j10) j11) j12) j13) j14) j15) j16) j17) j18) j19) j20) j21) j22) j23) j24) j25) j26) j27) j28) j29) j30) j31
theorem over : Rows.fnStepAllRow.holds Try.pinned (OpenSpec.ofChange Rows.fnStepAllSpec) :=
  OpenClaim.holds_of_wide 6 Try.f6 rfl rfl rfl rfl rfl rfl rfl ⟨rfl, rfl, rfl, rfl, rfl⟩ rfl rfl rfl rfl rfl (by kernel_rfl) Try.func6 facts
    (of_decide_eq_true (by kernel_rfl)) (by unfold Func.isWrapper; first | (rw [if_pos (by decide +kernel)]; kernel_rfl) | (rw [if_neg (by decide +kernel)]; exact ⟨rfl, rfl⟩))
    (fun os started H enc _ => lifted os started H enc)
end Go.Proofs.Ytcaapedadpnjoaa.fnStepAll
namespace Go.Proofs.Ytcaapedadpnjoaa
/-- The row, under a short name, for the claim. -/
theorem fnStepAll_holds : Rows.FnStepAllSaid := fnStepAll.over
#print axioms fnStepAll_holds
end Go.Proofs.Ytcaapedadpnjoaa
