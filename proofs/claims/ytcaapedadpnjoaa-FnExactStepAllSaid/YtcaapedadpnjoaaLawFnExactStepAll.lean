/- The law FnExactStepAll answers true for every input, and the input reads as it did. No condition. -/
import Derived.Test.YtcaapedadpnjoaaRows
import Derived.Test.YtcaapedadpnjoaaQSA3
import Derived.Test.YtcaapedadpnjoaaMH
import Derived.WalkKit
import Derived.ProofKit
namespace Go.Proofs.Ytcaapedadpnjoaa.fnExactStepAll
open Go.Ev
set_option linter.unusedVariables false
theorem types : Try.f7.params.toList = [48, 3] := by kernel_rfl
set_option maxRecDepth 100000 in
theorem answers (w : World) (args : Array Value) (ds : List D) (F : Feet) (h : All2 (PFits Try.prog) Try.f7.params.toList ds) (hd : RepDs w ds args.toList F) (hF : Still F) :
    Calls Try.prog 7 args w fun e w' => e = .returned (.bool true) ∧ RowKit.Below w.heap.size w w' := by
  rw [types] at h
  cases h with | cons h0 h => cases h with | cons h1 h => cases h with | nil =>
  unfold PFits at h0 h1
  rw [show isAggT Try.prog 48 = false by kernel_rfl, if_neg (by simp), show cty Try.prog 48 = [.sl (.rows [.n, .r3, .is, .is, .is])] by kernel_rfl] at h0
  obtain ⟨c0, hc0, h0⟩ := h0
  cases hc0
  obtain ⟨az, a, rfl, wr_a, wl_a, wn_a⟩ := h0
  rw [show isAggT Try.prog 3 = false by kernel_rfl, if_neg (by simp), show cty Try.prog 3 = [.int .i64] by kernel_rfl] at h1
  obtain ⟨c1, hc1, h1⟩ := h1
  cases hc1
  obtain ⟨t, rfl, _⟩ := h1
  have hl_a : (a.length : Int) ≤ 9223372036854775807 := by simp only [maxLen] at wl_a; omega
  simp only [RepDs] at hd
  obtain ⟨u, us, F1, F2, e0, rfl, r1, u2, us2, F3, F4, rfl, rfl, r2, rfl, rfl⟩ := hd
  simp only [RepD] at r2
  obtain ⟨rfl, rfl⟩ := r2
  have ha : args = #[u, .int .i64 t] := by rw [← Array.toArray_toList (xs := args), e0]
  subst ha
  exact law_StepAll hl_a (fun i hi => wr_a _ (by simp only [rrow, List.getD_eq_getElem?_getD, List.getElem?_eq_getElem hi, Option.getD_some]; exact List.getElem_mem hi)) w u F1 r1 (fun A hA => hF A (by simp [hA]))
set_option maxRecDepth 100000 in
theorem lifted (os : Os) (started : os.Started) (H : Type) (enc : TypeId × Value → H) :
    ReturnsInHanded {} Try.checked os 7 .any (Rows.fnExactStepAllSpec.pre6 enc Try.prog Try.f7 Rows.fnExactStepAllRow.domain false) (Rows.fnExactStepAllSpec.post enc Try.prog Try.f7 false true false false) := by
  refine returns_calls (C := Try.checked) (tb := 4) ownKnob0 started (by kernel_rfl) Try.func7
    (ChangeSpec.witness6 (enc := enc) (C := Try.checked) false ⟨#[], #[.slice none 0 0, .int .i64 0], []⟩ 8 (by kernel_rfl) (by kernel_rfl) (by kernel_rfl) (by kernel_rfl))
    laidOut0 (by kernel_rfl) (by kernel_rfl) (by kernel_rfl) rfl (fun ds h => ?_) answers
  match ds, h with
  | [d0, d1], _ => rfl
theorem andB {a b : Bool} (ha : a = true) (hb : b = true) : (a && b) = true := by rw [ha, hb]; rfl
theorem j0 : (Rows.fnExactStepAllRow.wf (OpenSpec.ofChange Rows.fnExactStepAllSpec)) = true := by kernel_rfl
theorem j1 : (laidOutB Try.pinned.checked.prog) = true := by kernel_rfl
theorem j2 : (mapsRowed Try.pinned.checked.prog) = true := by kernel_rfl
theorem j3 : (Try.f7.params.all (Try.pinned.checked.prog.readableRec ·)) = true := by kernel_rfl
theorem j4 : (namedTie Try.pinned.checked.prog Rows.fnExactStepAllRow.named Rows.fnExactStepAllSpec.vars) = true := by kernel_rfl
theorem j5 : ((Rows.fnExactStepAllRow.stops == [])) = true := by kernel_rfl
theorem j6 : ((Try.pinned.checked.prog.stops == [])) = true := by kernel_rfl
theorem j7 : ((Rows.fnExactStepAllRow.knobs == [])) = true := by kernel_rfl
theorem j8 : ((Try.pinned.checked.prog.stopKnobs == [])) = true := by kernel_rfl
theorem j9 : ((Rows.fnExactStepAllRow.inPlace == Try.pinned.checked.prog.inPlace 7)) = true := by kernel_rfl
theorem j10 : ((Rows.fnExactStepAllRow.unfollowed == Try.pinned.checked.prog.unfollowed 7)) = true := by kernel_rfl
theorem j11 : ((Rows.fnExactStepAllRow.recurses == Try.pinned.checked.prog.recurses 7)) = true := by kernel_rfl
theorem j12 : ((Rows.fnExactStepAllRow.named == Try.pinned.checked.prog.varsNamed 7)) = true := by kernel_rfl
theorem j13 : ((Rows.fnExactStepAllRow.maps == (Try.f7.params.toList ++ Rows.fnExactStepAllSpec.plain.varTypes Try.pinned.checked.prog).any (Try.pinned.checked.prog.mapsRec ·))) = true := by kernel_rfl
theorem j14 : ((Rows.fnExactStepAllRow.ifaces == (Try.f7.params.toList ++ Rows.fnExactStepAllSpec.plain.varTypes Try.pinned.checked.prog).any (Try.pinned.checked.prog.ifacesRec ·))) = true := by kernel_rfl
theorem j15 : ((Rows.fnExactStepAllRow.mapsOut == Try.pinned.checked.prog.mapsAmong Try.f7.resultTypes.toList)) = true := by kernel_rfl
theorem j16 : ((Rows.fnExactStepAllRow.loops == (Try.f7.params.toList ++ Rows.fnExactStepAllSpec.plain.varTypes Try.pinned.checked.prog).any (Try.pinned.checked.prog.loopsFrom ·))) = true := by kernel_rfl
theorem j17 : ((Rows.fnExactStepAllRow.wideKeys == (Try.f7.params.toList ++ Rows.fnExactStepAllSpec.plain.varTypes Try.pinned.checked.prog ++ Try.f7.resultTypes.toList).any (Try.pinned.checked.prog.wideKeysFrom ·))) = true := by kernel_rfl
theorem j18 : (Rows.fnExactStepAllSpec.vars.all (Try.pinned.checked.prog.varReadable ·)) = true := by kernel_rfl
theorem j19 : (Try.f7.resultTypes.all (fun t => Try.pinned.checked.prog.readableRec t && decide (t < Try.pinned.checked.prog.types.size))) = true := by kernel_rfl
theorem j20 : ((Rows.fnExactStepAllRow.ifacesOut == Try.f7.resultTypes.toList.any (Try.pinned.checked.prog.ifacesRec ·))) = true := by kernel_rfl
theorem j21 : ((Rows.fnExactStepAllRow.loopsOut == Try.f7.resultTypes.toList.any (Try.pinned.checked.prog.loopsFrom ·))) = true := by kernel_rfl
theorem j22 : ((Rows.fnExactStepAllRow.plainKeys == Try.pinned.checked.prog.plainKeys)) = true := by kernel_rfl
theorem j23 : (Rows.fnExactStepAllRow.shortTexts.isNone) = true := by kernel_rfl
theorem j24 : (Try.pinned.checked.prog.stopsHeard) = true := by kernel_rfl
theorem j25 : (Try.pinned.checked.prog.mayEnter) = true := by kernel_rfl
theorem j26 : ((Rows.fnExactStepAllRow.lifted == Try.pinned.checked.prog.liftsFinal)) = true := by kernel_rfl
theorem j27 : ((Try.pinned.checked.prog.make == some Rows.fnExactStepAllRow.make)) = true := by kernel_rfl
theorem j28 : ((Rows.fnExactStepAllRow.kinds == (if Rows.fnExactStepAllRow.domain.isEmpty then [] else Try.f7.params.toList.map fun t => match Try.pinned.checked.prog.underlying t with | some (.int k) => some k | _ => none))) = true := by kernel_rfl
theorem j29 : ((Rows.fnExactStepAllRow.pinned == Rows.fnExactStepAllRow.pinnedBy)) = true := by kernel_rfl
theorem j30 : ((Rows.fnExactStepAllRow.veiled == (Try.f7.params.toList ++ Rows.fnExactStepAllSpec.plain.varTypes Try.pinned.checked.prog ++ Try.f7.resultTypes.toList).any (Try.pinned.checked.prog.veiledRec ·))) = true := by kernel_rfl
theorem j31 : (Rows.fnExactStepAllRow.veiledFits Try.pinned.checked.prog Try.f7.params.toList (Try.f7.params.toList ++ Rows.fnExactStepAllSpec.plain.varTypes Try.pinned.checked.prog ++ Try.f7.resultTypes.toList)) = true := by kernel_rfl
set_option maxRecDepth 100000 in
theorem facts : joinedFacts Try.pinned.checked.prog 7 Try.f7 Rows.fnExactStepAllSpec Rows.fnExactStepAllRow = true := by
  unfold joinedFacts
  exact andB (andB (andB (andB (andB (andB (andB (andB (andB (andB (andB (andB (andB (andB (andB (andB (andB (andB (andB (andB (andB (andB (andB (andB (andB (andB (andB (andB (andB (andB (andB j0 j1) j2) j3) j4) j5) j6) j7) j8) j9) j10) j11) j12) j13) j14) j15) j16) j17) j18) j19) j20) j21) j22) j23) j24) j25) j26) j27) j28) j29) j30) j31
theorem over : Rows.fnExactStepAllRow.holds Try.pinned (OpenSpec.ofChange Rows.fnExactStepAllSpec) :=
  OpenClaim.holds_of_wide 7 Try.f7 rfl rfl rfl rfl rfl rfl rfl ⟨rfl, rfl, rfl, rfl, rfl⟩ rfl rfl rfl rfl rfl (by kernel_rfl) Try.func7 facts
    (of_decide_eq_true (by kernel_rfl)) (by unfold Func.isWrapper; first | (rw [if_pos (by decide +kernel)]; kernel_rfl) | (rw [if_neg (by decide +kernel)]; exact ⟨rfl, rfl⟩))
    (fun os started H enc _ => lifted os started H enc)
end Go.Proofs.Ytcaapedadpnjoaa.fnExactStepAll
namespace Go.Proofs.Ytcaapedadpnjoaa
/-- The row, under a short name, for the claim. -/
theorem fnExactStepAll_holds : Rows.FnExactStepAllSaid := fnExactStepAll.over
#print axioms fnExactStepAll_holds
end Go.Proofs.Ytcaapedadpnjoaa
