/- The law FnExactParseAct answers true for every input, and the input reads as it did; the tables of the standard packages hold what the text of the program lays (the card ties them). -/
import Derived.Test.YtjfjniebmdafeaaDoorRows
import Derived.Test.YtjfjniebmdafeaaDoorQP2
import Derived.Test.YtjfjniebmdafeaaDoorCards
import Derived.Test.YtjfjniebmdafeaaDoorTie
import Derived.Lay
import Derived.LaidLaws
import Derived.LaidSub
import Derived.Stop.LaidErr
import Derived.MakeChecks
import Derived.SevenTiedAt
import Derived.WalkKit
import Derived.ProofKit
namespace Go.Proofs.YtjfjniebmdafeaaDoor.fnExactParseAct
open Go.Ev Go.Lib Go.RowKit
set_option linter.unusedVariables false
theorem types : Tryd.f7.params.toList = [9] := by kernel_rfl
set_option maxRecDepth 100000 in
theorem hev (ds : List D) (h : All2 (PFits Tryd.prog) Tryd.f7.params.toList ds) : ∃ k, ev Tryd.prog An k 7 ds = some [.bool true] := by
  rw [types] at h
  cases h with | cons h0 h => cases h with | nil =>
  unfold PFits at h0
  rw [show isAggT Tryd.prog 9 = false by kernel_rfl, if_neg (by simp), show cty Tryd.prog 9 = [.str] by kernel_rfl] at h0
  obtain ⟨c0, hc0, h0⟩ := h0
  cases hc0
  obtain ⟨a, rfl, w_a⟩ := h0
  exact ⟨2000000 + 6, law_ParseAct 2000000 (by omega) a⟩
def errN : String := match (Rows.fnExactParseActRow.laid.getD 3 ("", .nil)).2 with | .iface n _ => n | _ => ""
theorem tabP : Tryd.prog.globalNamed (Rows.fnExactParseActRow.laid.getD 2 ("", .nil)).1 = some 5 := by kernel_rfl
theorem laidP : Rows.fnExactParseActRow.laid.filter (fun x => x.1 == (Rows.fnExactParseActRow.laid.getD 2 ("", .nil)).1) = [((Rows.fnExactParseActRow.laid.getD 2 ("", .nil)).1, tabData .u64 pow10Tab)] := by kernel_rfl
theorem tabA : Tryd.prog.globalNamed (Rows.fnExactParseActRow.laid.getD 6 ("", .nil)).1 = some 0 := by kernel_rfl
theorem laidA : Rows.fnExactParseActRow.laid.filter (fun x => x.1 == (Rows.fnExactParseActRow.laid.getD 6 ("", .nil)).1) = [((Rows.fnExactParseActRow.laid.getD 6 ("", .nil)).1, tabData .u8 asciiSpaceTab)] := by kernel_rfl
theorem tabY : Tryd.prog.globalNamed (Rows.fnExactParseActRow.laid.getD 4 ("", .nil)).1 = some 2 := by kernel_rfl
theorem laidY : Rows.fnExactParseActRow.laid.filter (fun x => x.1 == (Rows.fnExactParseActRow.laid.getD 4 ("", .nil)).1) = [((Rows.fnExactParseActRow.laid.getD 4 ("", .nil)).1, .iface errN (.ptr (.agg [.lit (.string [105, 110, 118, 97, 108, 105, 100, 32, 115, 121, 110, 116, 97, 120])])))] := by kernel_rfl
theorem tabR : Tryd.prog.globalNamed (Rows.fnExactParseActRow.laid.getD 3 ("", .nil)).1 = some 3 := by kernel_rfl
theorem laidR : Rows.fnExactParseActRow.laid.filter (fun x => x.1 == (Rows.fnExactParseActRow.laid.getD 3 ("", .nil)).1) = [((Rows.fnExactParseActRow.laid.getD 3 ("", .nil)).1, .iface errN (.ptr (.agg [.lit (.string [118, 97, 108, 117, 101, 32, 111, 117, 116, 32, 111, 102, 32, 114, 97, 110, 103, 101])])))] := by kernel_rfl
theorem rowErr (u : TypeId) (h : Tryd.prog.typeName? 3 u = some errN) : u = 227 := typeName_ptr_named (nm := "errors.errorString") (by kernel_rfl) (by kernel_rfl) (by decide) u (h.trans (by kernel_rfl))
theorem kept_of (w : World) (h : laidMetH Tryd.prog Rows.fnExactParseActRow.laid w) : Kept w := by
  have hP := h.filter fun x => x.1 == (Rows.fnExactParseActRow.laid.getD 2 ("", .nil)).1
  rw [laidP, MakeChecks.laidMetH_plain _ _ _ (by kernel_rfl)] at hP
  have hA := h.filter fun x => x.1 == (Rows.fnExactParseActRow.laid.getD 6 ("", .nil)).1
  rw [laidA, MakeChecks.laidMetH_plain _ _ _ (by kernel_rfl)] at hA
  have hY := h.filter fun x => x.1 == (Rows.fnExactParseActRow.laid.getD 4 ("", .nil)).1
  rw [laidY, MakeChecks.laidMetH_plain _ _ _ (by kernel_rfl)] at hY
  have hR := h.filter fun x => x.1 == (Rows.fnExactParseActRow.laid.getD 3 ("", .nil)).1
  rw [laidR, MakeChecks.laidMetH_plain _ _ _ (by kernel_rfl)] at hR
  obtain ⟨aY, sY, vY, _⟩ := laid_sentinel hY tabY (by kernel_rfl) Tryd.underlying120 rowErr Tryd.underlying227 Tryd.underlying229 rfl rfl Tryd.underlying9 (by kernel_rfl) (by kernel_rfl)
  obtain ⟨aR, sR, vR, _⟩ := laid_sentinel hR tabR (by kernel_rfl) Tryd.underlying120 rowErr Tryd.underlying227 Tryd.underlying229 rfl rfl Tryd.underlying9 (by kernel_rfl) (by kernel_rfl)
  exact kept_of4 tabP tabA tabY tabR (tabIs_of_head tabP (by kernel_rfl) Tryd.underlying221 Tryd.underlying195 (by kernel_rfl) (by kernel_rfl) hP) (tabIs_of_head tabA (by kernel_rfl) Tryd.underlying161 Tryd.underlying5 (by kernel_rfl) (by kernel_rfl) hA) ⟨_, _, vY⟩ ⟨_, _, vR⟩
set_option maxRecDepth 100000 in
theorem lifted (os : Os) (started : os.Started) (H : Type) (enc : TypeId × Value → H) :
    ReturnsInHanded {} Tryd.checked os 7 .any (fun w args => (Rows.fnExactParseActSpec.pre enc Tryd.prog Tryd.f7 Rows.fnExactParseActRow.domain false w args ∧ laidMetH Tryd.prog Rows.fnExactParseActRow.laid w) ∧ sizedMet enc Tryd.prog Tryd.f7 (OpenSpec.ofChange Rows.fnExactParseActSpec) false w args) (Rows.fnExactParseActSpec.post enc Tryd.prog Tryd.f7 false true false false) := by
  refine returns_laid (X := fun w => laidMetH Tryd.prog Rows.fnExactParseActRow.laid w) (C := Tryd.checked) (A := An) (tb := 4) (fun _ _ hh h => h.of_heap hh) kept_of ownKnob0 started (by kernel_rfl) Tryd.func7
    (ChangeSpec.witness_shaped (enc := enc) (C := Tryd.checked) (os := os) (X := fun w _ => laidMetH Tryd.prog Rows.fnExactParseActRow.laid w) false (World.laidAll Tryd.prog os Rows.fnExactParseActRow.laid) #[.string .empty] 8 (World.laidAll_os _ _ _)
      (World.shaped_of_ZipB (by kernel_rfl) (by kernel_rfl)) (by kernel_rfl) (by kernel_rfl) (by kernel_rfl)
      (by rw [MakeChecks.laidMetH_plain _ _ _ (by kernel_rfl)]; exact laidMet_laidAll _ (by kernel_rfl) (by kernel_rfl)))
    good withExt rfl laidOut0 (by kernel_rfl) (by kernel_rfl) (by kernel_rfl) rfl (fun ds h => ?_) hev
  match ds, h with
  | [d0], _ => rfl
theorem andB {a b : Bool} (ha : a = true) (hb : b = true) : (a && b) = true := by rw [ha, hb]; rfl
theorem j0 : (Rows.fnExactParseActRow.wf (OpenSpec.ofChange Rows.fnExactParseActSpec)) = true := by kernel_rfl
theorem j1 : (laidOutB Tryd.pinned.checked.prog) = true := by kernel_rfl
theorem j2 : (mapsRowed Tryd.pinned.checked.prog) = true := by kernel_rfl
theorem j3 : (Tryd.f7.params.all (Tryd.pinned.checked.prog.readableRec ·)) = true := by kernel_rfl
theorem j4 : (namedTie Tryd.pinned.checked.prog Rows.fnExactParseActRow.named Rows.fnExactParseActSpec.vars) = true := by kernel_rfl
theorem j5 : ((Rows.fnExactParseActRow.stops == [])) = true := by kernel_rfl
theorem j6 : ((Tryd.pinned.checked.prog.stops == [])) = true := by kernel_rfl
theorem j7 : ((Rows.fnExactParseActRow.knobs == [])) = true := by kernel_rfl
theorem j8 : ((Tryd.pinned.checked.prog.stopKnobs == [])) = true := by kernel_rfl
theorem j9 : ((Rows.fnExactParseActRow.inPlace == Tryd.pinned.checked.prog.inPlace 7)) = true := by kernel_rfl
theorem j10 : ((Rows.fnExactParseActRow.unfollowed == Tryd.pinned.checked.prog.unfollowed 7)) = true := by kernel_rfl
theorem j11 : ((Rows.fnExactParseActRow.recurses == Tryd.pinned.checked.prog.recurses 7)) = true := by kernel_rfl
theorem j12 : ((Rows.fnExactParseActRow.named == Tryd.pinned.checked.prog.varsNamed 7)) = true := by kernel_rfl
theorem j13 : ((Rows.fnExactParseActRow.maps == (Tryd.f7.params.toList ++ Rows.fnExactParseActSpec.plain.varTypes Tryd.pinned.checked.prog).any (Tryd.pinned.checked.prog.mapsRec ·))) = true := by kernel_rfl
theorem j14 : ((Rows.fnExactParseActRow.ifaces == (Tryd.f7.params.toList ++ Rows.fnExactParseActSpec.plain.varTypes Tryd.pinned.checked.prog).any (Tryd.pinned.checked.prog.ifacesRec ·))) = true := by kernel_rfl
theorem j15 : ((Rows.fnExactParseActRow.mapsOut == Tryd.pinned.checked.prog.mapsAmong Tryd.f7.resultTypes.toList)) = true := by kernel_rfl
theorem j16 : ((Rows.fnExactParseActRow.loops == (Tryd.f7.params.toList ++ Rows.fnExactParseActSpec.plain.varTypes Tryd.pinned.checked.prog).any (Tryd.pinned.checked.prog.loopsFrom ·))) = true := by kernel_rfl
theorem j17 : ((Rows.fnExactParseActRow.wideKeys == (Tryd.f7.params.toList ++ Rows.fnExactParseActSpec.plain.varTypes Tryd.pinned.checked.prog ++ Tryd.f7.resultTypes.toList).any (Tryd.pinned.checked.prog.wideKeysFrom ·))) = true := by kernel_rfl
theorem j18 : (Rows.fnExactParseActSpec.vars.all (Tryd.pinned.checked.prog.varReadable ·)) = true := by kernel_rfl
theorem j19 : (Tryd.f7.resultTypes.all (fun t => Tryd.pinned.checked.prog.readableRec t && decide (t < Tryd.pinned.checked.prog.types.size))) = true := by kernel_rfl
theorem j20 : ((Rows.fnExactParseActRow.ifacesOut == Tryd.f7.resultTypes.toList.any (Tryd.pinned.checked.prog.ifacesRec ·))) = true := by kernel_rfl
theorem j21 : ((Rows.fnExactParseActRow.loopsOut == Tryd.f7.resultTypes.toList.any (Tryd.pinned.checked.prog.loopsFrom ·))) = true := by kernel_rfl
theorem j22 : ((Rows.fnExactParseActRow.plainKeys == Tryd.pinned.checked.prog.plainKeys)) = true := by kernel_rfl
theorem j23 : (Rows.fnExactParseActRow.shortTexts.isNone) = true := by kernel_rfl
theorem j24 : (Tryd.pinned.checked.prog.stopsHeard) = true := by kernel_rfl
theorem j25 : (Tryd.pinned.checked.prog.mayEnter) = true := by kernel_rfl
theorem j26 : ((Rows.fnExactParseActRow.lifted == Tryd.pinned.checked.prog.liftsFinal)) = true := by kernel_rfl
theorem j27 : ((Tryd.pinned.checked.prog.make == some Rows.fnExactParseActRow.make)) = true := by kernel_rfl
theorem j28 : ((Rows.fnExactParseActRow.kinds == (if Rows.fnExactParseActRow.domain.isEmpty then [] else Tryd.f7.params.toList.map fun t => match Tryd.pinned.checked.prog.underlying t with | some (.int k) => some k | _ => none))) = true := by kernel_rfl
theorem j29 : ((Rows.fnExactParseActRow.pinned == Rows.fnExactParseActRow.pinnedBy)) = true := by kernel_rfl
theorem j30 : ((Rows.fnExactParseActRow.veiled == (Tryd.f7.params.toList ++ Rows.fnExactParseActSpec.plain.varTypes Tryd.pinned.checked.prog ++ Tryd.f7.resultTypes.toList).any (Tryd.pinned.checked.prog.veiledRec ·))) = true := by kernel_rfl
theorem j31 : (Rows.fnExactParseActRow.veiledFits Tryd.pinned.checked.prog Tryd.f7.params.toList (Tryd.f7.params.toList ++ Rows.fnExactParseActSpec.plain.varTypes Tryd.pinned.checked.prog ++ Tryd.f7.resultTypes.toList)) = true := by kernel_rfl
set_option maxRecDepth 100000 in
theorem facts : joinedFacts Tryd.pinned.checked.prog 7 Tryd.f7 Rows.fnExactParseActSpec Rows.fnExactParseActRow = true := by
  unfold joinedFacts
  exact andB (andB (andB (andB (andB (andB (andB (andB (andB (andB (andB (andB (andB (andB (andB (andB (andB (andB (andB (andB (andB (andB (andB (andB (andB (andB (andB (andB (andB (andB (andB j0 j1) j2) j3) j4) j5) j6) j7) j8) j9) j10) j11) j12) j13) j14) j15) j16) j17) j18) j19) j20) j21) j22) j23) j24) j25) j26) j27) j28) j29) j30) j31
theorem over : Rows.fnExactParseActRow.holds Tryd.pinned (OpenSpec.ofChange Rows.fnExactParseActSpec) :=
  OpenClaim.holds_of_wide 7 Tryd.f7 rfl rfl rfl rfl rfl rfl rfl ⟨rfl, rfl, rfl, rfl, rfl⟩ rfl rfl rfl rfl rfl (by kernel_rfl) Tryd.func7 facts
    (of_decide_eq_true (by kernel_rfl)) (by unfold Func.isWrapper; first | (rw [if_pos (by decide +kernel)]; kernel_rfl) | (rw [if_neg (by decide +kernel)]; exact ⟨rfl, rfl⟩))
    (fun os started H enc _ => lifted os started H enc)
theorem card : Rows.FnExactParseActCardSaid :=
  Claim7.holds_tied_plain_at .later [] [.data, .data, .data, .sentinel, .sentinel, .listed, .data] true (true, "97b1e680fc8208e76c133198ceb282b5c084b43e32c1d9e3a5de7818bdaadf54") true
    over (fun _ h => by cases h) (by kernel_rfl) (fun _ h => by cases h) fnExactParseAct_row_tie rfl ⟨rfl, rfl⟩ (by kernel_rfl) rfl
    (fun f fn hf hfn => by
      obtain rfl : f = 7 := Option.some.inj ((show Tryd.prog.funcNamed Rows.fnExactParseActRow.func = some 7 by kernel_rfl).symm.trans hf) |>.symm
      obtain rfl : fn = Tryd.f7 := (Option.some.inj (Tryd.func7.symm.trans hfn)).symm
      exact ⟨by kernel_rfl, fun j t ht => by
        have hm : t ∈ [9] := by rw [← types]; simpa using Array.mem_of_getElem? ht
        have hall : ([9].all fun u => !Tryd.prog.wantsStandIn u) = true := by kernel_rfl
        exact (show Tryd.prog.wantsStandIn t = false by simpa using List.all_eq_true.1 hall t hm)⟩)
    (by kernel_rfl)
end Go.Proofs.YtjfjniebmdafeaaDoor.fnExactParseAct
namespace Go.Proofs.YtjfjniebmdafeaaDoor
/-- The card, under a short name, for the claim. -/
theorem fnExactParseAct_holds : Rows.FnExactParseActCardSaid := fnExactParseAct.card
#print axioms fnExactParseAct_holds
end Go.Proofs.YtjfjniebmdafeaaDoor
