/- The law FnExactFormatLedger answers true for every input, and the input reads as it did; the tables of the standard packages hold what the text of the program lays (the card ties them). -/
import Derived.Test.YtjfjniebmdafeaaDoorRows
import Derived.Test.YtjfjniebmdafeaaDoorLFL
import Derived.Test.YtjfjniebmdafeaaDoorCards
import Derived.Test.YtjfjniebmdafeaaDoorTie
import Derived.Lay
import Derived.LaidLaws
import Derived.LaidSub
import Derived.MakeChecks
import Derived.SevenTiedAt
import Derived.WalkKit
import Derived.ProofKit
namespace Go.Proofs.YtjfjniebmdafeaaDoor.fnExactFormatLedger
open Go.Ev Go.Lib Go.RowKit
set_option linter.unusedVariables false
theorem types : Tryd.f3.params.toList = [23] := by kernel_rfl
set_option maxRecDepth 100000 in
theorem hev (ds : List D) (h : All2 (PFits Tryd.prog) Tryd.f3.params.toList ds) : ∃ k, ev Tryd.prog An k 3 ds = some [.bool true] := by
  rw [types] at h
  cases h with | cons h0 h => cases h with | nil =>
  unfold PFits at h0
  rw [show isAggT Tryd.prog 23 = true by kernel_rfl, if_pos rfl, show cty Tryd.prog 23 = [.int .i64, .int .i64, .int .i64, .int .i64] by kernel_rfl] at h0
  obtain ⟨l0, rfl, h0⟩ := h0
  cases h0 with | cons q0_0 h0 =>
  cases h0 with | cons q0_1 h0 =>
  cases h0 with | cons q0_2 h0 =>
  cases h0 with | cons q0_3 h0 =>
  cases h0 with | nil =>
  obtain ⟨a0, rfl, w_a0⟩ := q0_0
  obtain ⟨a1, rfl, w_a1⟩ := q0_1
  obtain ⟨a2, rfl, w_a2⟩ := q0_2
  obtain ⟨a3, rfl, w_a3⟩ := q0_3
  have hb_a0 := wfBounds w_a0
  have hb_a1 := wfBounds w_a1
  have hb_a2 := wfBounds w_a2
  have hb_a3 := wfBounds w_a3
  exact ⟨2000000 + 4, law_FormatLedger 2000000 (by omega) a0 a1 a2 a3 hb_a0 hb_a1 hb_a2 hb_a3⟩
theorem tabN : Tryd.prog.globalNamed (Rows.fnExactFormatLedgerRow.laid.getD 2 ("", .nil)).1 = some 5 := by kernel_rfl
theorem laidT : Rows.fnExactFormatLedgerRow.laid.filter (fun x => x.1 == (Rows.fnExactFormatLedgerRow.laid.getD 2 ("", .nil)).1) = [((Rows.fnExactFormatLedgerRow.laid.getD 2 ("", .nil)).1, tabData .u64 pow10Tab)] := by kernel_rfl
theorem kept_of (w : World) (h : laidMetH Tryd.prog Rows.fnExactFormatLedgerRow.laid w) : Kept w := by
  have h1 := h.filter fun x => x.1 == (Rows.fnExactFormatLedgerRow.laid.getD 2 ("", .nil)).1
  rw [laidT, MakeChecks.laidMetH_plain _ _ _ (by kernel_rfl)] at h1
  exact kept_of_tab tabN (tabIs_of_head tabN (by kernel_rfl) Tryd.underlying221 Tryd.underlying195 (by kernel_rfl) (by kernel_rfl) h1)
set_option maxRecDepth 100000 in
theorem lifted (os : Os) (started : os.Started) (H : Type) (enc : TypeId × Value → H) :
    ReturnsInHanded {} Tryd.checked os 3 .any (fun w args => (Rows.fnExactFormatLedgerSpec.pre enc Tryd.prog Tryd.f3 Rows.fnExactFormatLedgerRow.domain false w args ∧ laidMetH Tryd.prog Rows.fnExactFormatLedgerRow.laid w) ∧ sizedMet enc Tryd.prog Tryd.f3 (OpenSpec.ofChange Rows.fnExactFormatLedgerSpec) false w args) (Rows.fnExactFormatLedgerSpec.post enc Tryd.prog Tryd.f3 false true false false) := by
  refine returns_laid (X := fun w => laidMetH Tryd.prog Rows.fnExactFormatLedgerRow.laid w) (C := Tryd.checked) (A := An) (tb := 4) (fun _ _ hh h => h.of_heap hh) kept_of ownKnob0 started (by kernel_rfl) Tryd.func3
    (ChangeSpec.witness_shaped (enc := enc) (C := Tryd.checked) (os := os) (X := fun w _ => laidMetH Tryd.prog Rows.fnExactFormatLedgerRow.laid w) false (World.laidAll Tryd.prog os Rows.fnExactFormatLedgerRow.laid) #[.agg #[.int .i64 0, .int .i64 0, .int .i64 0, .int .i64 0]] 8 (World.laidAll_os _ _ _)
      (World.shaped_of_ZipB (by kernel_rfl) (by kernel_rfl)) (by kernel_rfl) (by kernel_rfl) (by kernel_rfl)
      (by rw [MakeChecks.laidMetH_plain _ _ _ (by kernel_rfl)]; exact laidMet_laidAll _ (by kernel_rfl) (by kernel_rfl)))
    good withExt rfl laidOut0 (by kernel_rfl) (by kernel_rfl) (by kernel_rfl) rfl (fun ds h => ?_) hev
  match ds, h with
  | [d0], _ => rfl
theorem andB {a b : Bool} (ha : a = true) (hb : b = true) : (a && b) = true := by rw [ha, hb]; rfl
theorem j0 : (Rows.fnExactFormatLedgerRow.wf (OpenSpec.ofChange Rows.fnExactFormatLedgerSpec)) = true := by kernel_rfl
theorem j1 : (laidOutB Tryd.pinned.checked.prog) = true := by kernel_rfl
theorem j2 : (mapsRowed Tryd.pinned.checked.prog) = true := by kernel_rfl
theorem j3 : (Tryd.f3.params.all (Tryd.pinned.checked.prog.readableRec ·)) = true := by kernel_rfl
theorem j4 : (namedTie Tryd.pinned.checked.prog Rows.fnExactFormatLedgerRow.named Rows.fnExactFormatLedgerSpec.vars) = true := by kernel_rfl
theorem j5 : ((Rows.fnExactFormatLedgerRow.stops == [])) = true := by kernel_rfl
theorem j6 : ((Tryd.pinned.checked.prog.stops == [])) = true := by kernel_rfl
theorem j7 : ((Rows.fnExactFormatLedgerRow.knobs == [])) = true := by kernel_rfl
theorem j8 : ((Tryd.pinned.checked.prog.stopKnobs == [])) = true := by kernel_rfl
theorem j9 : ((Rows.fnExactFormatLedgerRow.inPlace == Tryd.pinned.checked.prog.inPlace 3)) = true := by kernel_rfl
theorem j10 : ((Rows.fnExactFormatLedgerRow.unfollowed == Tryd.pinned.checked.prog.unfollowed 3)) = true := by kernel_rfl
theorem j11 : ((Rows.fnExactFormatLedgerRow.recurses == Tryd.pinned.checked.prog.recurses 3)) = true := by kernel_rfl
theorem j12 : ((Rows.fnExactFormatLedgerRow.named == Tryd.pinned.checked.prog.varsNamed 3)) = true := by kernel_rfl
theorem j13 : ((Rows.fnExactFormatLedgerRow.maps == (Tryd.f3.params.toList ++ Rows.fnExactFormatLedgerSpec.plain.varTypes Tryd.pinned.checked.prog).any (Tryd.pinned.checked.prog.mapsRec ·))) = true := by kernel_rfl
theorem j14 : ((Rows.fnExactFormatLedgerRow.ifaces == (Tryd.f3.params.toList ++ Rows.fnExactFormatLedgerSpec.plain.varTypes Tryd.pinned.checked.prog).any (Tryd.pinned.checked.prog.ifacesRec ·))) = true := by kernel_rfl
theorem j15 : ((Rows.fnExactFormatLedgerRow.mapsOut == Tryd.pinned.checked.prog.mapsAmong Tryd.f3.resultTypes.toList)) = true := by kernel_rfl
theorem j16 : ((Rows.fnExactFormatLedgerRow.loops == (Tryd.f3.params.toList ++ Rows.fnExactFormatLedgerSpec.plain.varTypes Tryd.pinned.checked.prog).any (Tryd.pinned.checked.prog.loopsFrom ·))) = true := by kernel_rfl
theorem j17 : ((Rows.fnExactFormatLedgerRow.wideKeys == (Tryd.f3.params.toList ++ Rows.fnExactFormatLedgerSpec.plain.varTypes Tryd.pinned.checked.prog ++ Tryd.f3.resultTypes.toList).any (Tryd.pinned.checked.prog.wideKeysFrom ·))) = true := by kernel_rfl
theorem j18 : (Rows.fnExactFormatLedgerSpec.vars.all (Tryd.pinned.checked.prog.varReadable ·)) = true := by kernel_rfl
theorem j19 : (Tryd.f3.resultTypes.all (fun t => Tryd.pinned.checked.prog.readableRec t && decide (t < Tryd.pinned.checked.prog.types.size))) = true := by kernel_rfl
theorem j20 : ((Rows.fnExactFormatLedgerRow.ifacesOut == Tryd.f3.resultTypes.toList.any (Tryd.pinned.checked.prog.ifacesRec ·))) = true := by kernel_rfl
theorem j21 : ((Rows.fnExactFormatLedgerRow.loopsOut == Tryd.f3.resultTypes.toList.any (Tryd.pinned.checked.prog.loopsFrom ·))) = true := by kernel_rfl
theorem j22 : ((Rows.fnExactFormatLedgerRow.plainKeys == Tryd.pinned.checked.prog.plainKeys)) = true := by kernel_rfl
theorem j23 : (Rows.fnExactFormatLedgerRow.shortTexts.isNone) = true := by kernel_rfl
theorem j24 : (Tryd.pinned.checked.prog.stopsHeard) = true := by kernel_rfl
theorem j25 : (Tryd.pinned.checked.prog.mayEnter) = true := by kernel_rfl
theorem j26 : ((Rows.fnExactFormatLedgerRow.lifted == Tryd.pinned.checked.prog.liftsFinal)) = true := by kernel_rfl
theorem j27 : ((Tryd.pinned.checked.prog.make == some Rows.fnExactFormatLedgerRow.make)) = true := by kernel_rfl
theorem j28 : ((Rows.fnExactFormatLedgerRow.kinds == (if Rows.fnExactFormatLedgerRow.domain.isEmpty then [] else Tryd.f3.params.toList.map fun t => match Tryd.pinned.checked.prog.underlying t with | some (.int k) => some k | _ => none))) = true := by kernel_rfl
theorem j29 : ((Rows.fnExactFormatLedgerRow.pinned == Rows.fnExactFormatLedgerRow.pinnedBy)) = true := by kernel_rfl
theorem j30 : ((Rows.fnExactFormatLedgerRow.veiled == (Tryd.f3.params.toList ++ Rows.fnExactFormatLedgerSpec.plain.varTypes Tryd.pinned.checked.prog ++ Tryd.f3.resultTypes.toList).any (Tryd.pinned.checked.prog.veiledRec ·))) = true := by kernel_rfl
theorem j31 : (Rows.fnExactFormatLedgerRow.veiledFits Tryd.pinned.checked.prog Tryd.f3.params.toList (Tryd.f3.params.toList ++ Rows.fnExactFormatLedgerSpec.plain.varTypes Tryd.pinned.checked.prog ++ Tryd.f3.resultTypes.toList)) = true := by kernel_rfl
set_option maxRecDepth 100000 in
theorem facts : joinedFacts Tryd.pinned.checked.prog 3 Tryd.f3 Rows.fnExactFormatLedgerSpec Rows.fnExactFormatLedgerRow = true := by
  unfold joinedFacts
  exact andB (andB (andB (andB (andB (andB (andB (andB (andB (andB (andB (andB (andB (andB (andB (andB (andB (andB (andB (andB (andB (andB (andB (andB (andB (andB (andB (andB (andB (andB (andB j0 j1) j2) j3) j4) j5) j6) j7) j8) j9) j10) j11) j12) j13) j14) j15) j16) j17) j18) j19) j20) j21) j22) j23) j24) j25) j26) j27) j28) j29) j30) j31
theorem over : Rows.fnExactFormatLedgerRow.holds Tryd.pinned (OpenSpec.ofChange Rows.fnExactFormatLedgerSpec) :=
  OpenClaim.holds_of_wide 3 Tryd.f3 rfl rfl rfl rfl rfl rfl rfl ⟨rfl, rfl, rfl, rfl, rfl⟩ rfl rfl rfl rfl rfl (by kernel_rfl) Tryd.func3 facts
    (of_decide_eq_true (by kernel_rfl)) (by unfold Func.isWrapper; first | (rw [if_pos (by decide +kernel)]; kernel_rfl) | (rw [if_neg (by decide +kernel)]; exact ⟨rfl, rfl⟩))
    (fun os started H enc _ => lifted os started H enc)
theorem card : Rows.FnExactFormatLedgerCardSaid :=
  Claim7.holds_tied_plain_at .later [] [.data, .data, .data] true (true, "97b1e680fc8208e76c133198ceb282b5c084b43e32c1d9e3a5de7818bdaadf54") true
    over (fun _ h => by cases h) (by kernel_rfl) (fun _ h => by cases h) fnExactFormatLedger_row_tie rfl ⟨rfl, rfl⟩ (by kernel_rfl) rfl
    (fun f fn hf hfn => by
      obtain rfl : f = 3 := Option.some.inj ((show Tryd.prog.funcNamed Rows.fnExactFormatLedgerRow.func = some 3 by kernel_rfl).symm.trans hf) |>.symm
      obtain rfl : fn = Tryd.f3 := (Option.some.inj (Tryd.func3.symm.trans hfn)).symm
      exact ⟨by kernel_rfl, fun j t ht => by
        have hm : t ∈ [23] := by rw [← types]; simpa using Array.mem_of_getElem? ht
        have hall : ([23].all fun u => !Tryd.prog.wantsStandIn u) = true := by kernel_rfl
        exact (show Tryd.prog.wantsStandIn t = false by simpa using List.all_eq_true.1 hall t hm)⟩)
    (by kernel_rfl)
end Go.Proofs.YtjfjniebmdafeaaDoor.fnExactFormatLedger
namespace Go.Proofs.YtjfjniebmdafeaaDoor
/-- The card, under a short name, for the claim. -/
theorem fnExactFormatLedger_holds : Rows.FnExactFormatLedgerCardSaid := fnExactFormatLedger.card
#print axioms fnExactFormatLedger_holds
end Go.Proofs.YtjfjniebmdafeaaDoor
