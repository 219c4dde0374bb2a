/- The law FnActTexts answers true for every input, and the input reads as it did; the tables of the standard packages hold what the text of the program lays (the card ties them). -/
import Derived.Test.YtjfjniebmdafeaaDoorRows
import Derived.Test.YtjfjniebmdafeaaDoorQT2
import Derived.Test.YtjfjniebmdafeaaDoorCards
import Derived.Test.YtjfjniebmdafeaaDoorTie
import Derived.Lay
import Derived.LaidLaws
import Derived.LaidSub
import Derived.Stop.LaidErr
import Derived.MakeChecks
import Derived.SevenTiedAt
import Derived.WalkKit
import Derived.ProofKit
namespace Go.Proofs.YtjfjniebmdafeaaDoor.fnActTexts
open Go.Ev Go.Lib Go.RowKit
set_option linter.unusedVariables false
theorem types : Tryd.f8.params.toList = [77] := by kernel_rfl
set_option maxRecDepth 100000 in
theorem hev (ds : List D) (h : All2 (PFits Tryd.prog) Tryd.f8.params.toList ds) : ∃ k, ev Tryd.prog An k 8 ds = some [.bool true] := by
  rw [types] at h
  cases h with | cons h0 h => cases h with | nil =>
  unfold PFits at h0
  rw [show isAggT Tryd.prog 77 = false by kernel_rfl, if_neg (by simp), show cty Tryd.prog 77 = [.sl (.int IntKind.u8)] by kernel_rfl] at h0
  obtain ⟨c0, hc0, h0⟩ := h0
  cases hc0
  obtain ⟨az, ar_a, rfl, wf_a, wl_a, wn_a⟩ := h0
  cases ar_a with | bools _ => exact wf_a.elim | strs _ => exact wf_a.elim | r3 _ => exact wf_a.elim | r4 _ => exact wf_a.elim | ints kk_a a =>
  obtain ⟨rfl, wf_a⟩ := wf_a
  have hl_a : (a.length : Int) ≤ 9223372036854775807 := by simp only [Arr.len, maxLen] at wl_a; omega
  exact ⟨2000000 + 13, law_FnActTexts 2000000 (by omega) az a⟩
def errN : String := match (Rows.fnActTextsRow.laid.getD 3 ("", .nil)).2 with | .iface n _ => n | _ => ""
theorem tabP : Tryd.prog.globalNamed (Rows.fnActTextsRow.laid.getD 2 ("", .nil)).1 = some 5 := by kernel_rfl
theorem laidP : Rows.fnActTextsRow.laid.filter (fun x => x.1 == (Rows.fnActTextsRow.laid.getD 2 ("", .nil)).1) = [((Rows.fnActTextsRow.laid.getD 2 ("", .nil)).1, tabData .u64 pow10Tab)] := by kernel_rfl
theorem tabA : Tryd.prog.globalNamed (Rows.fnActTextsRow.laid.getD 6 ("", .nil)).1 = some 0 := by kernel_rfl
theorem laidA : Rows.fnActTextsRow.laid.filter (fun x => x.1 == (Rows.fnActTextsRow.laid.getD 6 ("", .nil)).1) = [((Rows.fnActTextsRow.laid.getD 6 ("", .nil)).1, tabData .u8 asciiSpaceTab)] := by kernel_rfl
theorem tabY : Tryd.prog.globalNamed (Rows.fnActTextsRow.laid.getD 4 ("", .nil)).1 = some 2 := by kernel_rfl
theorem laidY : Rows.fnActTextsRow.laid.filter (fun x => x.1 == (Rows.fnActTextsRow.laid.getD 4 ("", .nil)).1) = [((Rows.fnActTextsRow.laid.getD 4 ("", .nil)).1, .iface errN (.ptr (.agg [.lit (.string [105, 110, 118, 97, 108, 105, 100, 32, 115, 121, 110, 116, 97, 120])])))] := by kernel_rfl
theorem tabR : Tryd.prog.globalNamed (Rows.fnActTextsRow.laid.getD 3 ("", .nil)).1 = some 3 := by kernel_rfl
theorem laidR : Rows.fnActTextsRow.laid.filter (fun x => x.1 == (Rows.fnActTextsRow.laid.getD 3 ("", .nil)).1) = [((Rows.fnActTextsRow.laid.getD 3 ("", .nil)).1, .iface errN (.ptr (.agg [.lit (.string [118, 97, 108, 117, 101, 32, 111, 117, 116, 32, 111, 102, 32, 114, 97, 110, 103, 101])])))] := by kernel_rfl
theorem rowErr (u : TypeId) (h : Tryd.prog.typeName? 3 u = some errN) : u = 227 := typeName_ptr_named (nm := "errors.errorString") (by kernel_rfl) (by kernel_rfl) (by decide) u (h.trans (by kernel_rfl))
theorem kept_of (w : World) (h : laidMetH Tryd.prog Rows.fnActTextsRow.laid w) : Kept w := by
  have hP := h.filter fun x => x.1 == (Rows.fnActTextsRow.laid.getD 2 ("", .nil)).1
  rw [laidP, MakeChecks.laidMetH_plain _ _ _ (by kernel_rfl)] at hP
  have hA := h.filter fun x => x.1 == (Rows.fnActTextsRow.laid.getD 6 ("", .nil)).1
  rw [laidA, MakeChecks.laidMetH_plain _ _ _ (by kernel_rfl)] at hA
  have hY := h.filter fun x => x.1 == (Rows.fnActTextsRow.laid.getD 4 ("", .nil)).1
  rw [laidY, MakeChecks.laidMetH_plain _ _ _ (by kernel_rfl)] at hY
  have hR := h.filter fun x => x.1 == (Rows.fnActTextsRow.laid.getD 3 ("", .nil)).1
  rw [laidR, MakeChecks.laidMetH_plain _ _ _ (by kernel_rfl)] at hR
  obtain ⟨aY, sY, vY, _⟩ := laid_sentinel hY tabY (by kernel_rfl) Tryd.underlying120 rowErr Tryd.underlying227 Tryd.underlying229 rfl rfl Tryd.underlying9 (by kernel_rfl) (by kernel_rfl)
  obtain ⟨aR, sR, vR, _⟩ := laid_sentinel hR tabR (by kernel_rfl) Tryd.underlying120 rowErr Tryd.underlying227 Tryd.underlying229 rfl rfl Tryd.underlying9 (by kernel_rfl) (by kernel_rfl)
  exact kept_of4 tabP tabA tabY tabR (tabIs_of_head tabP (by kernel_rfl) Tryd.underlying221 Tryd.underlying195 (by kernel_rfl) (by kernel_rfl) hP) (tabIs_of_head tabA (by kernel_rfl) Tryd.underlying161 Tryd.underlying5 (by kernel_rfl) (by kernel_rfl) hA) ⟨_, _, vY⟩ ⟨_, _, vR⟩
set_option maxRecDepth 100000 in
theorem lifted (os : Os) (started : os.Started) (H : Type) (enc : TypeId × Value → H) :
    ReturnsInHanded {} Tryd.checked os 8 .any (fun w args => (Rows.fnActTextsSpec.pre enc Tryd.prog Tryd.f8 Rows.fnActTextsRow.domain false w args ∧ laidMetH Tryd.prog Rows.fnActTextsRow.laid w) ∧ sizedMet enc Tryd.prog Tryd.f8 (OpenSpec.ofChange Rows.fnActTextsSpec) false w args) (Rows.fnActTextsSpec.post enc Tryd.prog Tryd.f8 false true false false) := by
  refine returns_laid (X := fun w => laidMetH Tryd.prog Rows.fnActTextsRow.laid w) (C := Tryd.checked) (A := An) (tb := 4) (fun _ _ hh h => h.of_heap hh) kept_of ownKnob0 started (by kernel_rfl) Tryd.func8
    (ChangeSpec.witness_shaped (enc := enc) (C := Tryd.checked) (os := os) (X := fun w _ => laidMetH Tryd.prog Rows.fnActTextsRow.laid w) false (World.laidAll Tryd.prog os Rows.fnActTextsRow.laid) #[.slice none 0 0] 8 (World.laidAll_os _ _ _)
      (World.shaped_of_ZipB (by kernel_rfl) (by kernel_rfl)) (by kernel_rfl) (by kernel_rfl) (by kernel_rfl)
      (by rw [MakeChecks.laidMetH_plain _ _ _ (by kernel_rfl)]; exact laidMet_laidAll _ (by kernel_rfl) (by kernel_rfl)))
    good withExt rfl laidOut0 (by kernel_rfl) (by kernel_rfl) (by kernel_rfl) rfl (fun ds h => ?_) hev
  match ds, h with
  | [d0], _ => rfl
theorem andB {a b : Bool} (ha : a = true) (hb : b = true) : (a && b) = true := by rw [ha, hb]; rfl
theorem j0 : (Rows.fnActTextsRow.wf (OpenSpec.ofChange Rows.fnActTextsSpec)) = true := by kernel_rfl
theorem j1 : (laidOutB Tryd.pinned.checked.prog) = true := by kernel_rfl
theorem j2 : (mapsRowed Tryd.pinned.checked.prog) = true := by kernel_rfl
theorem j3 : (Tryd.f8.params.all (Tryd.pinned.checked.prog.readableRec ·)) = true := by kernel_rfl
theorem j4 : (namedTie Tryd.pinned.checked.prog Rows.fnActTextsRow.named Rows.fnActTextsSpec.vars) = true := by kernel_rfl
theorem j5 : ((Rows.fnActTextsRow.stops == [])) = true := by kernel_rfl
theorem j6 : ((Tryd.pinned.checked.prog.stops == [])) = true := by kernel_rfl
theorem j7 : ((Rows.fnActTextsRow.knobs == [])) = true := by kernel_rfl
theorem j8 : ((Tryd.pinned.checked.prog.stopKnobs == [])) = true := by kernel_rfl
theorem j9 : ((Rows.fnActTextsRow.inPlace == Tryd.pinned.checked.prog.inPlace 8)) = true := by kernel_rfl
theorem j10 : ((Rows.fnActTextsRow.unfollowed == Tryd.pinned.checked.prog.unfollowed 8)) = true := by kernel_rfl
theorem j11 : ((Rows.fnActTextsRow.recurses == Tryd.pinned.checked.prog.recurses 8)) = true := by kernel_rfl
theorem j12 : ((Rows.fnActTextsRow.named == Tryd.pinned.checked.prog.varsNamed 8)) = true := by kernel_rfl
theorem j13 : ((Rows.fnActTextsRow.maps == (Tryd.f8.params.toList ++ Rows.fnActTextsSpec.plain.varTypes Tryd.pinned.checked.prog).any (Tryd.pinned.checked.prog.mapsRec ·))) = true := by kernel_rfl
theorem j14 : ((Rows.fnActTextsRow.ifaces == (Tryd.f8.params.toList ++ Rows.fnActTextsSpec.plain.varTypes Tryd.pinned.checked.prog).any (Tryd.pinned.checked.prog.ifacesRec ·))) = true := by kernel_rfl
theorem j15 : ((Rows.fnActTextsRow.mapsOut == Tryd.pinned.checked.prog.mapsAmong Tryd.f8.resultTypes.toList)) = true := by kernel_rfl
theorem j16 : ((Rows.fnActTextsRow.loops == (Tryd.f8.params.toList ++ Rows.fnActTextsSpec.plain.varTypes Tryd.pinned.checked.prog).any (Tryd.pinned.checked.prog.loopsFrom ·))) = true := by kernel_rfl
theorem j17 : ((Rows.fnActTextsRow.wideKeys == (Tryd.f8.params.toList ++ Rows.fnActTextsSpec.plain.varTypes Tryd.pinned.checked.prog ++ Tryd.f8.resultTypes.toList).any (Tryd.pinned.checked.prog.wideKeysFrom ·))) = true := by kernel_rfl
theorem j18 : (Rows.fnActTextsSpec.vars.all (Tryd.pinned.checked.prog.varReadable ·)) = true := by kernel_rfl
theorem j19 : (Tryd.f8.resultTypes.all (fun t => Tryd.pinned.checked.prog.readableRec t && decide (t < Tryd.pinned.checked.prog.types.size))) = true := by kernel_rfl
theorem j20 : ((Rows.fnActTextsRow.ifacesOut == Tryd.f8.resultTypes.toList.any (Tryd.pinned.checked.prog.ifacesRec ·))) = true := by kernel_rfl
theorem j21 : ((Rows.fnActTextsRow.loopsOut == Tryd.f8.resultTypes.toList.any (Tryd.pinned.checked.prog.loopsFrom ·))) = true := by kernel_rfl
theorem j22 : ((Rows.fnActTextsRow.plainKeys == Tryd.pinned.checked.prog.plainKeys)) = true := by kernel_rfl
theorem j23 : (Rows.fnActTextsRow.shortTexts.isNone) = true := by kernel_rfl
theorem j24 : (Tryd.pinned.checked.prog.stopsHeard) = true := by kernel_rfl
theorem j25 : (Tryd.pinned.checked.prog.mayEnter) = true := by kernel_rfl
theorem j26 : ((Rows.fnActTextsRow.lifted == Tryd.pinned.checked.prog.liftsFinal)) = true := by kernel_rfl
theorem j27 : ((Tryd.pinned.checked.prog.make == some Rows.fnActTextsRow.make)) = true := by kernel_rfl
theorem j28 : ((Rows.fnActTextsRow.kinds == (if Rows.fnActTextsRow.domain.isEmpty then [] else Tryd.f8.params.toList.map fun t => match Tryd.pinned.checked.prog.underlying t with | some (.int k) => some k | _ => none))) = true := by kernel_rfl
theorem j29 : ((Rows.fnActTextsRow.pinned == Rows.fnActTextsRow.pinnedBy)) = true := by kernel_rfl
theorem j30 : ((Rows.fnActTextsRow.veiled == (Tryd.f8.params.toList ++ Rows.fnActTextsSpec.plain.varTypes Tryd.pinned.checked.prog ++ Tryd.f8.resultTypes.toList).any (Tryd.pinned.checked.prog.veiledRec ·))) = true := by kernel_rfl
theorem j31 : (Rows.fnActTextsRow.veiledFits Tryd.pinned.checked.prog Tryd.f8.params.toList (Tryd.f8.params.toList ++ Rows.fnActTextsSpec.plain.varTypes Tryd.pinned.checked.prog ++ Tryd.f8.resultTypes.toList)) = true := by kernel_rfl
set_option maxRecDepth 100000 in
theorem facts : joinedFacts Tryd.pinned.checked.prog 8 Tryd.f8 Rows.fnActTextsSpec Rows.fnActTextsRow = true := by
  unfold joinedFacts
  exact andB (andB (andB (andB (andB (andB (andB (andB (andB (andB (andB (andB (andB (andB (andB (andB (andB (andB (andB (andB (andB (andB (andB (andB (andB (andB (andB (andB (andB (andB (andB j0 j1) j2) j3) j4) j5) j6) j7) j8) j9) j10) j11) j12) j13) j14) j15) j16) j17) j18) j19) j20) j21) j22) j23) j24) j25) j26) j27) j28) j29) j30) j31
theorem over : Rows.fnActTextsRow.holds Tryd.pinned (OpenSpec.ofChange Rows.fnActTextsSpec) :=
  OpenClaim.holds_of_wide 8 Tryd.f8 rfl rfl rfl rfl rfl rfl rfl ⟨rfl, rfl, rfl, rfl, rfl⟩ rfl rfl rfl rfl rfl (by kernel_rfl) Tryd.func8 facts
    (of_decide_eq_true (by kernel_rfl)) (by unfold Func.isWrapper; first | (rw [if_pos (by decide +kernel)]; kernel_rfl) | (rw [if_neg (by decide +kernel)]; exact ⟨rfl, rfl⟩))
    (fun os started H enc _ => lifted os started H enc)
theorem card : Rows.FnActTextsCardSaid :=
  Claim7.holds_tied_plain_at .later [] [.data, .data, .data, .sentinel, .sentinel, .listed, .data] true (true, "97b1e680fc8208e76c133198ceb282b5c084b43e32c1d9e3a5de7818bdaadf54") true
    over (fun _ h => by cases h) (by kernel_rfl) (fun _ h => by cases h) fnActTexts_row_tie rfl ⟨rfl, rfl⟩ (by kernel_rfl) rfl
    (fun f fn hf hfn => by
      obtain rfl : f = 8 := Option.some.inj ((show Tryd.prog.funcNamed Rows.fnActTextsRow.func = some 8 by kernel_rfl).symm.trans hf) |>.symm
      obtain rfl : fn = Tryd.f8 := (Option.some.inj (Tryd.func8.symm.trans hfn)).symm
      exact ⟨by kernel_rfl, fun j t ht => by
        have hm : t ∈ [77] := by rw [← types]; simpa using Array.mem_of_getElem? ht
        have hall : ([77].all fun u => !Tryd.prog.wantsStandIn u) = true := by kernel_rfl
        exact (show Tryd.prog.wantsStandIn t = false by simpa using List.all_eq_true.1 hall t hm)⟩)
    (by kernel_rfl)
end Go.Proofs.YtjfjniebmdafeaaDoor.fnActTexts
namespace Go.Proofs.YtjfjniebmdafeaaDoor
/-- The card, under a short name, for the claim. -/
theorem fnActTexts_holds : Rows.FnActTextsCardSaid := fnActTexts.card
#print axioms fnActTexts_holds
end Go.Proofs.YtjfjniebmdafeaaDoor
