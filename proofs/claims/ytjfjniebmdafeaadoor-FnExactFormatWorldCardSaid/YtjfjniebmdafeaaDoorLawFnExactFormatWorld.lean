/- The law FnExactFormatWorld answers true for every input, and the input reads as it did; the tables of the standard packages hold what the text of the program lays (the card ties them). -/
import Derived.Test.YtjfjniebmdafeaaDoorRows
import Derived.Test.YtjfjniebmdafeaaDoorQW2
import Derived.Test.YtjfjniebmdafeaaDoorCards
import Derived.Test.YtjfjniebmdafeaaDoorTie
import Derived.Lay
import Derived.LaidLaws
import Derived.LaidSub
import Derived.MakeChecks
import Derived.SevenTiedAt
import Derived.WalkKit
import Derived.ProofKit
namespace Go.Proofs.YtjfjniebmdafeaaDoor.fnExactFormatWorld
open Go.Ev Go.Lib Go.RowKit
set_option linter.unusedVariables false
theorem types : Tryd.f6.params.toList = [53] := by kernel_rfl
set_option maxRecDepth 100000 in
theorem hev (ds : List D) (h : All2 (PFits Tryd.prog) Tryd.f6.params.toList ds) : ∃ k, ev Tryd.prog An k 6 ds = some [.bool true] := by
  rw [types] at h
  cases h with | cons h0 h => cases h with | nil =>
  unfold PFits at h0
  rw [show isAggT Tryd.prog 53 = true by kernel_rfl, if_pos rfl, show cty Tryd.prog 53 = [.int .i64, .sl .r3, .sl (.int .i64), .sl (.int .i64), .sl (.int .i64), .int .i64, .int .i64, .int .i64, .int .i64, .int .i64, .int .i64, .int .i64, .int .i64, .int .i64, .int .i64, .int .i64, .int .i64, .int .i64, .int .i64, .int .i64, .int .i64] by kernel_rfl] at h0
  obtain ⟨l0, rfl, h0⟩ := h0
  cases h0 with | cons q0_0 h0 =>
  cases h0 with | cons q0_1 h0 =>
  cases h0 with | cons q0_2 h0 =>
  cases h0 with | cons q0_3 h0 =>
  cases h0 with | cons q0_4 h0 =>
  cases h0 with | cons q0_5 h0 =>
  cases h0 with | cons q0_6 h0 =>
  cases h0 with | cons q0_7 h0 =>
  cases h0 with | cons q0_8 h0 =>
  cases h0 with | cons q0_9 h0 =>
  cases h0 with | cons q0_10 h0 =>
  cases h0 with | cons q0_11 h0 =>
  cases h0 with | cons q0_12 h0 =>
  cases h0 with | cons q0_13 h0 =>
  cases h0 with | cons q0_14 h0 =>
  cases h0 with | cons q0_15 h0 =>
  cases h0 with | cons q0_16 h0 =>
  cases h0 with | cons q0_17 h0 =>
  cases h0 with | cons q0_18 h0 =>
  cases h0 with | cons q0_19 h0 =>
  cases h0 with | cons q0_20 h0 =>
  cases h0 with | nil =>
  obtain ⟨a0, rfl, w_a0⟩ := q0_0
  obtain ⟨a1z, ar_a1, rfl, wf_a1, wl_a1, wn_a1⟩ := q0_1
  cases ar_a1 with | ints _ _ => exact wf_a1.elim | bools _ => exact wf_a1.elim | strs _ => exact wf_a1.elim | r4 _ => exact wf_a1.elim | r3 a1 =>
  obtain ⟨a2z, ar_a2, rfl, wf_a2, wl_a2, wn_a2⟩ := q0_2
  cases ar_a2 with | bools _ => exact wf_a2.elim | strs _ => exact wf_a2.elim | r3 _ => exact wf_a2.elim | r4 _ => exact wf_a2.elim | ints kk_a2 a2 =>
  obtain ⟨rfl, wf_a2⟩ := wf_a2
  obtain ⟨a3z, ar_a3, rfl, wf_a3, wl_a3, wn_a3⟩ := q0_3
  cases ar_a3 with | bools _ => exact wf_a3.elim | strs _ => exact wf_a3.elim | r3 _ => exact wf_a3.elim | r4 _ => exact wf_a3.elim | ints kk_a3 a3 =>
  obtain ⟨rfl, wf_a3⟩ := wf_a3
  obtain ⟨a4z, ar_a4, rfl, wf_a4, wl_a4, wn_a4⟩ := q0_4
  cases ar_a4 with | bools _ => exact wf_a4.elim | strs _ => exact wf_a4.elim | r3 _ => exact wf_a4.elim | r4 _ => exact wf_a4.elim | ints kk_a4 a4 =>
  obtain ⟨rfl, wf_a4⟩ := wf_a4
  obtain ⟨a5, rfl, w_a5⟩ := q0_5
  obtain ⟨a6, rfl, w_a6⟩ := q0_6
  obtain ⟨a7, rfl, w_a7⟩ := q0_7
  obtain ⟨a8, rfl, w_a8⟩ := q0_8
  obtain ⟨a9, rfl, w_a9⟩ := q0_9
  obtain ⟨a10, rfl, w_a10⟩ := q0_10
  obtain ⟨a11, rfl, w_a11⟩ := q0_11
  obtain ⟨a12, rfl, w_a12⟩ := q0_12
  obtain ⟨a13, rfl, w_a13⟩ := q0_13
  obtain ⟨a14, rfl, w_a14⟩ := q0_14
  obtain ⟨a15, rfl, w_a15⟩ := q0_15
  obtain ⟨a16, rfl, w_a16⟩ := q0_16
  obtain ⟨a17, rfl, w_a17⟩ := q0_17
  obtain ⟨a18, rfl, w_a18⟩ := q0_18
  obtain ⟨a19, rfl, w_a19⟩ := q0_19
  obtain ⟨a20, rfl, w_a20⟩ := q0_20
  have hl_a1 : (a1.length : Int) ≤ 9223372036854775807 := by simp only [Arr.len, maxLen] at wl_a1; omega
  have hl_a2 : (a2.length : Int) ≤ 9223372036854775807 := by simp only [Arr.len, maxLen] at wl_a2; omega
  have hl_a3 : (a3.length : Int) ≤ 9223372036854775807 := by simp only [Arr.len, maxLen] at wl_a3; omega
  have hl_a4 : (a4.length : Int) ≤ 9223372036854775807 := by simp only [Arr.len, maxLen] at wl_a4; omega
  exact ⟨2000000 + 11, law_FormatWorld 2000000 (by omega) a0 a1z a1 a2z a2 a3z a3 a4z a4 a5 a6 a7 a8 a9 a10 a11 a12 a13 a14 a15 a16 a17 a18 a19 a20 hl_a1 hl_a2 hl_a3 hl_a4⟩
theorem tabN : Tryd.prog.globalNamed (Rows.fnExactFormatWorldRow.laid.getD 2 ("", .nil)).1 = some 5 := by kernel_rfl
theorem laidT : Rows.fnExactFormatWorldRow.laid.filter (fun x => x.1 == (Rows.fnExactFormatWorldRow.laid.getD 2 ("", .nil)).1) = [((Rows.fnExactFormatWorldRow.laid.getD 2 ("", .nil)).1, tabData .u64 pow10Tab)] := by kernel_rfl
theorem kept_of (w : World) (h : laidMetH Tryd.prog Rows.fnExactFormatWorldRow.laid w) : Kept w := by
  have h1 := h.filter fun x => x.1 == (Rows.fnExactFormatWorldRow.laid.getD 2 ("", .nil)).1
  rw [laidT, MakeChecks.laidMetH_plain _ _ _ (by kernel_rfl)] at h1
  exact kept_of_tab tabN (tabIs_of_head tabN (by kernel_rfl) Tryd.underlying221 Tryd.underlying195 (by kernel_rfl) (by kernel_rfl) h1)
set_option maxRecDepth 100000 in
theorem lifted (os : Os) (started : os.Started) (H : Type) (enc : TypeId × Value → H) :
    ReturnsInHanded {} Tryd.checked os 6 .any (fun w args => (Rows.fnExactFormatWorldSpec.pre enc Tryd.prog Tryd.f6 Rows.fnExactFormatWorldRow.domain false w args ∧ laidMetH Tryd.prog Rows.fnExactFormatWorldRow.laid w) ∧ sizedMet enc Tryd.prog Tryd.f6 (OpenSpec.ofChange Rows.fnExactFormatWorldSpec) false w args) (Rows.fnExactFormatWorldSpec.post enc Tryd.prog Tryd.f6 false true false false) := by
  refine returns_laid (X := fun w => laidMetH Tryd.prog Rows.fnExactFormatWorldRow.laid w) (C := Tryd.checked) (A := An) (tb := 4) (fun _ _ hh h => h.of_heap hh) kept_of ownKnob0 started (by kernel_rfl) Tryd.func6
    (ChangeSpec.witness_shaped (enc := enc) (C := Tryd.checked) (os := os) (X := fun w _ => laidMetH Tryd.prog Rows.fnExactFormatWorldRow.laid w) false (World.laidAll Tryd.prog os Rows.fnExactFormatWorldRow.laid) #[.agg #[.int .i64 0, .slice none 0 0, .slice none 0 0, .slice none 0 0, .slice none 0 0, .int .i64 0, .int .i64 0, .int .i64 0, .int .i64 0, .int .i64 0, .int .i64 0, .int .i64 0, .int .i64 0, .int .i64 0, .int .i64 0, .int .i64 0, .int .i64 0, .int .i64 0, .int .i64 0, .int .i64 0, .int .i64 0]] 8 (World.laidAll_os _ _ _)
      (World.shaped_of_ZipB (by kernel_rfl) (by kernel_rfl)) (by kernel_rfl) (by kernel_rfl) (by kernel_rfl)
      (by rw [MakeChecks.laidMetH_plain _ _ _ (by kernel_rfl)]; exact laidMet_laidAll _ (by kernel_rfl) (by kernel_rfl)))
    good withExt rfl laidOut0 (by kernel_rfl) (by kernel_rfl) (by kernel_rfl) rfl (fun ds h => ?_) hev
  match ds, h with
  | [d0], _ => rfl
theorem andB {a b : Bool} (ha : a = true) (hb : b = true) : (a && b) = true := by rw [ha, hb]; rfl
theorem j0 : (Rows.fnExactFormatWorldRow.wf (OpenSpec.ofChange Rows.fnExactFormatWorldSpec)) = true := by kernel_rfl
theorem j1 : (laidOutB Tryd.pinned.checked.prog) = true := by kernel_rfl
theorem j2 : (mapsRowed Tryd.pinned.checked.prog) = true := by kernel_rfl
theorem j3 : (Tryd.f6.params.all (Tryd.pinned.checked.prog.readableRec ·)) = true := by kernel_rfl
theorem j4 : (namedTie Tryd.pinned.checked.prog Rows.fnExactFormatWorldRow.named Rows.fnExactFormatWorldSpec.vars) = true := by kernel_rfl
theorem j5 : ((Rows.fnExactFormatWorldRow.stops == [])) = true := by kernel_rfl
theorem j6 : ((Tryd.pinned.checked.prog.stops == [])) = true := by kernel_rfl
theorem j7 : ((Rows.fnExactFormatWorldRow.knobs == [])) = true := by kernel_rfl
theorem j8 : ((Tryd.pinned.checked.prog.stopKnobs == [])) = true := by kernel_rfl
theorem j9 : ((Rows.fnExactFormatWorldRow.inPlace == Tryd.pinned.checked.prog.inPlace 6)) = true := by kernel_rfl
theorem j10 : ((Rows.fnExactFormatWorldRow.unfollowed == Tryd.pinned.checked.prog.unfollowed 6)) = true := by kernel_rfl
theorem j11 : ((Rows.fnExactFormatWorldRow.recurses == Tryd.pinned.checked.prog.recurses 6)) = true := by kernel_rfl
theorem j12 : ((Rows.fnExactFormatWorldRow.named == Tryd.pinned.checked.prog.varsNamed 6)) = true := by kernel_rfl
theorem j13 : ((Rows.fnExactFormatWorldRow.maps == (Tryd.f6.params.toList ++ Rows.fnExactFormatWorldSpec.plain.varTypes Tryd.pinned.checked.prog).any (Tryd.pinned.checked.prog.mapsRec ·))) = true := by kernel_rfl
theorem j14 : ((Rows.fnExactFormatWorldRow.ifaces == (Tryd.f6.params.toList ++ Rows.fnExactFormatWorldSpec.plain.varTypes Tryd.pinned.checked.prog).any (Tryd.pinned.checked.prog.ifacesRec ·))) = true := by kernel_rfl
theorem j15 : ((Rows.fnExactFormatWorldRow.mapsOut == Tryd.pinned.checked.prog.mapsAmong Tryd.f6.resultTypes.toList)) = true := by kernel_rfl
theorem j16 : ((Rows.fnExactFormatWorldRow.loops == (Tryd.f6.params.toList ++ Rows.fnExactFormatWorldSpec.plain.varTypes Tryd.pinned.checked.prog).any (Tryd.pinned.checked.prog.loopsFrom ·))) = true := by kernel_rfl
theorem j17 : ((Rows.fnExactFormatWorldRow.wideKeys == (Tryd.f6.params.toList ++ Rows.fnExactFormatWorldSpec.plain.varTypes Tryd.pinned.checked.prog ++ Tryd.f6.resultTypes.toList).any (Tryd.pinned.checked.prog.wideKeysFrom ·))) = true := by kernel_rfl
theorem j18 : (Rows.fnExactFormatWorldSpec.vars.all (Tryd.pinned.checked.prog.varReadable ·)) = true := by kernel_rfl
theorem j19 : (Tryd.f6.resultTypes.all (fun t => Tryd.pinned.checked.prog.readableRec t && decide (t < Tryd.pinned.checked.prog.types.size))) = true := by kernel_rfl
theorem j20 : ((Rows.fnExactFormatWorldRow.ifacesOut == Tryd.f6.resultTypes.toList.any (Tryd.pinned.checked.prog.ifacesRec ·))) = true := by kernel_rfl
theorem j21 : ((Rows.fnExactFormatWorldRow.loopsOut == Tryd.f6.resultTypes.toList.any (Tryd.pinned.checked.prog.loopsFrom ·))) = true := by kernel_rfl
theorem j22 : ((Rows.fnExactFormatWorldRow.plainKeys == Tryd.pinned.checked.prog.plainKeys)) = true := by kernel_rfl
theorem j23 : (Rows.fnExactFormatWorldRow.shortTexts.isNone) = true := by kernel_rfl
theorem j24 : (Tryd.pinned.checked.prog.stopsHeard) = true := by kernel_rfl
theorem j25 : (Tryd.pinned.checked.prog.mayEnter) = true := by kernel_rfl
theorem j26 : ((Rows.fnExactFormatWorldRow.lifted == Tryd.pinned.checked.prog.liftsFinal)) = true := by kernel_rfl
theorem j27 : ((Tryd.pinned.checked.prog.make == some Rows.fnExactFormatWorldRow.make)) = true := by kernel_rfl
theorem j28 : ((Rows.fnExactFormatWorldRow.kinds == (if Rows.fnExactFormatWorldRow.domain.isEmpty then [] else Tryd.f6.params.toList.map fun t => match Tryd.pinned.checked.prog.underlying t with | some (.int k) => some k | _ => none))) = true := by kernel_rfl
theorem j29 : ((Rows.fnExactFormatWorldRow.pinned == Rows.fnExactFormatWorldRow.pinnedBy)) = true := by kernel_rfl
theorem j30 : ((Rows.fnExactFormatWorldRow.veiled == (Tryd.f6.params.toList ++ Rows.fnExactFormatWorldSpec.plain.varTypes Tryd.pinned.checked.prog ++ Tryd.f6.resultTypes.toList).any (Tryd.pinned.checked.prog.veiledRec ·))) = true := by kernel_rfl
theorem j31 : (Rows.fnExactFormatWorldRow.veiledFits Tryd.pinned.checked.prog Tryd.f6.params.toList (Tryd.f6.params.toList ++ Rows.fnExactFormatWorldSpec.plain.varTypes Tryd.pinned.checked.prog ++ Tryd.f6.resultTypes.toList)) = true := by kernel_rfl
set_option maxRecDepth 100000 in
theorem facts : joinedFacts Tryd.pinned.checked.prog 6 Tryd.f6 Rows.fnExactFormatWorldSpec Rows.fnExactFormatWorldRow = true := by
  unfold joinedFacts
  exact andB (andB (andB (andB (andB (andB (andB (andB (andB (andB (andB (andB (andB (andB (andB (andB (andB (andB (andB (andB (andB (andB (andB (andB (andB (andB (andB (andB (andB (andB (andB j0 j1) j2) j3) j4) j5) j6) j7) j8) j9) j10) j11) j12) j13) j14) j15) j16) j17) j18) j19) j20) j21) j22) j23) j24) j25) j26) j27) j28) j29) j30) j31
theorem over : Rows.fnExactFormatWorldRow.holds Tryd.pinned (OpenSpec.ofChange Rows.fnExactFormatWorldSpec) :=
  OpenClaim.holds_of_wide 6 Tryd.f6 rfl rfl rfl rfl rfl rfl rfl ⟨rfl, rfl, rfl, rfl, rfl⟩ rfl rfl rfl rfl rfl (by kernel_rfl) Tryd.func6 facts
    (of_decide_eq_true (by kernel_rfl)) (by unfold Func.isWrapper; first | (rw [if_pos (by decide +kernel)]; kernel_rfl) | (rw [if_neg (by decide +kernel)]; exact ⟨rfl, rfl⟩))
    (fun os started H enc _ => lifted os started H enc)
theorem card : Rows.FnExactFormatWorldCardSaid :=
  Claim7.holds_tied_plain_at .later [] [.data, .data, .data] true (true, "97b1e680fc8208e76c133198ceb282b5c084b43e32c1d9e3a5de7818bdaadf54") true
    over (fun _ h => by cases h) (by kernel_rfl) (fun _ h => by cases h) fnExactFormatWorld_row_tie rfl ⟨rfl, rfl⟩ (by kernel_rfl) rfl
    (fun f fn hf hfn => by
      obtain rfl : f = 6 := Option.some.inj ((show Tryd.prog.funcNamed Rows.fnExactFormatWorldRow.func = some 6 by kernel_rfl).symm.trans hf) |>.symm
      obtain rfl : fn = Tryd.f6 := (Option.some.inj (Tryd.func6.symm.trans hfn)).symm
      exact ⟨by kernel_rfl, fun j t ht => by
        have hm : t ∈ [53] := by rw [← types]; simpa using Array.mem_of_getElem? ht
        have hall : ([53].all fun u => !Tryd.prog.wantsStandIn u) = true := by kernel_rfl
        exact (show Tryd.prog.wantsStandIn t = false by simpa using List.all_eq_true.1 hall t hm)⟩)
    (by kernel_rfl)
end Go.Proofs.YtjfjniebmdafeaaDoor.fnExactFormatWorld
namespace Go.Proofs.YtjfjniebmdafeaaDoor
/-- The card, under a short name, for the claim. -/
theorem fnExactFormatWorld_holds : Rows.FnExactFormatWorldCardSaid := fnExactFormatWorld.card
#print axioms fnExactFormatWorld_holds
end Go.Proofs.YtjfjniebmdafeaaDoor
