/- The law FnScripts answers true for every input, and the input reads as it did; the tables of the standard packages hold what the text of the program lays (the card ties them). -/
import Derived.Test.YtjfjniebmdafeaaGreatDoorRows
import Derived.Test.YtjfjniebmdafeaaGreatDoorQS5
import Derived.Test.YtjfjniebmdafeaaGreatDoorSLL
import Derived.Test.YtjfjniebmdafeaaGreatDoorCards
import Derived.Test.YtjfjniebmdafeaaGreatDoorTie
import Derived.Lay
import Derived.LaidLaws
import Derived.LaidSub
import Derived.Stop.LaidErr
import Derived.MakeChecks
import Derived.SevenTiedAt
import Derived.WalkKit
import Derived.ProofKit
namespace Go.Proofs.YtjfjniebmdafeaaGreatDoor.fnScripts
open Go.Ev Go.Lib Go.RowKit
set_option linter.unusedVariables false
theorem types : Tryz.f4.params.toList = [22] := by kernel_rfl
set_option maxRecDepth 100000 in
theorem hev (ds : List D) (h : All2 (PFits Tryz.prog) Tryz.f4.params.toList ds) : ∃ k, ev Tryz.prog An k 4 ds = some [.bool true] := by
  rw [types] at h
  cases h with | cons h0 h => cases h with | nil =>
  unfold PFits at h0
  rw [show isAggT Tryz.prog 22 = false by kernel_rfl, if_neg (by simp), show cty Tryz.prog 22 = [.sl (.int IntKind.u8)] by kernel_rfl] at h0
  obtain ⟨c0, hc0, h0⟩ := h0
  cases hc0
  obtain ⟨az, ar_a, rfl, wf_a, wl_a, wn_a⟩ := h0
  cases ar_a with | bools _ => exact wf_a.elim | strs _ => exact wf_a.elim | r3 _ => exact wf_a.elim | r4 _ => exact wf_a.elim | ints kk_a a =>
  obtain ⟨rfl, wf_a⟩ := wf_a
  have hl_a : (a.length : Int) ≤ 9223372036854775807 := by simp only [Arr.len, maxLen] at wl_a; omega
  exact ⟨2000000 + 17, law_Scripts 2000000 (by omega) az a⟩
def errN : String := match (Rows.fnScriptsRow.laid.getD 4 ("", .nil)).2 with | .iface n _ => n | _ => ""
theorem tabP : Tryz.prog.globalNamed (Rows.fnScriptsRow.laid.getD 2 ("", .nil)).1 = some 3 := by kernel_rfl
theorem laidP : Rows.fnScriptsRow.laid.filter (fun x => x.1 == (Rows.fnScriptsRow.laid.getD 2 ("", .nil)).1) = [((Rows.fnScriptsRow.laid.getD 2 ("", .nil)).1, tabData .u64 pow10Tab)] := by kernel_rfl
theorem tabA : Tryz.prog.globalNamed (Rows.fnScriptsRow.laid.getD 7 ("", .nil)).1 = some 0 := by kernel_rfl
theorem laidA : Rows.fnScriptsRow.laid.filter (fun x => x.1 == (Rows.fnScriptsRow.laid.getD 7 ("", .nil)).1) = [((Rows.fnScriptsRow.laid.getD 7 ("", .nil)).1, tabData .u8 asciiSpaceTab)] := by kernel_rfl
theorem tabY : Tryz.prog.globalNamed (Rows.fnScriptsRow.laid.getD 5 ("", .nil)).1 = some 6 := by kernel_rfl
theorem laidY : Rows.fnScriptsRow.laid.filter (fun x => x.1 == (Rows.fnScriptsRow.laid.getD 5 ("", .nil)).1) = [((Rows.fnScriptsRow.laid.getD 5 ("", .nil)).1, .iface errN (.ptr (.agg [.lit (.string [105, 110, 118, 97, 108, 105, 100, 32, 115, 121, 110, 116, 97, 120])])))] := by kernel_rfl
theorem tabR : Tryz.prog.globalNamed (Rows.fnScriptsRow.laid.getD 4 ("", .nil)).1 = some 7 := by kernel_rfl
theorem laidR : Rows.fnScriptsRow.laid.filter (fun x => x.1 == (Rows.fnScriptsRow.laid.getD 4 ("", .nil)).1) = [((Rows.fnScriptsRow.laid.getD 4 ("", .nil)).1, .iface errN (.ptr (.agg [.lit (.string [118, 97, 108, 117, 101, 32, 111, 117, 116, 32, 111, 102, 32, 114, 97, 110, 103, 101])])))] := by kernel_rfl
theorem rowErr (u : TypeId) (h : Tryz.prog.typeName? 3 u = some errN) : u = 269 := typeName_ptr_named (nm := "errors.errorString") (by kernel_rfl) (by kernel_rfl) (by decide) u (h.trans (by kernel_rfl))
theorem kept_of (w : World) (hsh : w.ShapedOpen Tryz.prog) (h : laidMetH Tryz.prog Rows.fnScriptsRow.laid w) : Kept w := by
  have hP := h.filter fun x => x.1 == (Rows.fnScriptsRow.laid.getD 2 ("", .nil)).1
  rw [laidP, MakeChecks.laidMetH_plain _ _ _ (by kernel_rfl)] at hP
  have hA := h.filter fun x => x.1 == (Rows.fnScriptsRow.laid.getD 7 ("", .nil)).1
  rw [laidA, MakeChecks.laidMetH_plain _ _ _ (by kernel_rfl)] at hA
  have hY := h.filter fun x => x.1 == (Rows.fnScriptsRow.laid.getD 5 ("", .nil)).1
  rw [laidY, MakeChecks.laidMetH_plain _ _ _ (by kernel_rfl)] at hY
  have hR := h.filter fun x => x.1 == (Rows.fnScriptsRow.laid.getD 4 ("", .nil)).1
  rw [laidR, MakeChecks.laidMetH_plain _ _ _ (by kernel_rfl)] at hR
  obtain ⟨aY, sY, vY, _⟩ := laid_sentinel hY tabY (by kernel_rfl) Tryz.underlying119 rowErr Tryz.underlying269 Tryz.underlying271 rfl rfl Tryz.underlying9 (by kernel_rfl) (by kernel_rfl)
  obtain ⟨aR, sR, vR, _⟩ := laid_sentinel hR tabR (by kernel_rfl) Tryz.underlying119 rowErr Tryz.underlying269 Tryz.underlying271 rfl rfl Tryz.underlying9 (by kernel_rfl) (by kernel_rfl)
  exact kept_of4 tabP tabA tabY tabR (tabIs_of_head tabP (by kernel_rfl) Tryz.underlying244 Tryz.underlying214 (by kernel_rfl) (by kernel_rfl) hP) (tabIs_of_head tabA (by kernel_rfl) Tryz.underlying169 Tryz.underlying5 (by kernel_rfl) (by kernel_rfl) hA) ⟨_, _, vY⟩ ⟨_, _, vR⟩
    (cell_of_shapedOpen_int (P := Tryz.prog) (g := 2) (t := 3) (zero := #[.int .i64 0]) hsh (of_decide_eq_true (by kernel_rfl)) (by kernel_rfl) rfl (by kernel_rfl) (by kernel_rfl) Tryz.underlying3)
set_option maxRecDepth 100000 in
theorem lifted (os : Os) (started : os.Started) (H : Type) (enc : TypeId × Value → H) :
    ReturnsInHanded {} Tryz.checked os 4 .any (fun w args => (Rows.fnScriptsSpec.pre enc Tryz.prog Tryz.f4 Rows.fnScriptsRow.domain false w args ∧ laidMetH Tryz.prog Rows.fnScriptsRow.laid w) ∧ sizedMet enc Tryz.prog Tryz.f4 (OpenSpec.ofChange Rows.fnScriptsSpec) false w args) (Rows.fnScriptsSpec.post enc Tryz.prog Tryz.f4 false true false false) := by
  refine returns_laidS (X := fun w => laidMetH Tryz.prog Rows.fnScriptsRow.laid w) (C := Tryz.checked) (A := An) (tb := 4) (fun _ _ hh h => h.of_heap hh) kept_of ownKnob0 started (by kernel_rfl) Tryz.func4
    (ChangeSpec.witness_shaped (enc := enc) (C := Tryz.checked) (os := os) (X := fun w _ => laidMetH Tryz.prog Rows.fnScriptsRow.laid w) false (World.laidAll Tryz.prog os Rows.fnScriptsRow.laid) #[.slice none 0 0] 8 (World.laidAll_os _ _ _)
      (World.shaped_of_ZipB (by kernel_rfl) (by kernel_rfl)) (by kernel_rfl) (by kernel_rfl) (by kernel_rfl)
      (by rw [MakeChecks.laidMetH_plain _ _ _ (by kernel_rfl)]; exact laidMet_laidAll _ (by kernel_rfl) (by kernel_rfl)))
    good withExt rfl laidOut0 (by kernel_rfl) (by kernel_rfl) (by kernel_rfl) rfl (fun ds h => ?_) hev
  match ds, h with
  | [d0], _ => rfl
theorem andB {a b : Bool} (ha : a = true) (hb : b = true) : (a && b) = true := by rw [ha, hb]; rfl
theorem j0 : (Rows.fnScriptsRow.wf (OpenSpec.ofChange Rows.fnScriptsSpec)) = true := by kernel_rfl
theorem j1 : (laidOutB Tryz.pinned.checked.prog) = true := by kernel_rfl
theorem j2 : (mapsRowed Tryz.pinned.checked.prog) = true := by kernel_rfl
theorem j3 : (Tryz.f4.params.all (Tryz.pinned.checked.prog.readableRec ·)) = true := by kernel_rfl
theorem j4 : (namedTie Tryz.pinned.checked.prog Rows.fnScriptsRow.named Rows.fnScriptsSpec.vars) = true := by kernel_rfl
theorem j5 : ((Rows.fnScriptsRow.stops == [])) = true := by kernel_rfl
theorem j6 : ((Tryz.pinned.checked.prog.stops == [])) = true := by kernel_rfl
theorem j7 : ((Rows.fnScriptsRow.knobs == [])) = true := by kernel_rfl
theorem j8 : ((Tryz.pinned.checked.prog.stopKnobs == [])) = true := by kernel_rfl
theorem j9 : ((Rows.fnScriptsRow.inPlace == Tryz.pinned.checked.prog.inPlace 4)) = true := by kernel_rfl
theorem j10 : ((Rows.fnScriptsRow.unfollowed == Tryz.pinned.checked.prog.unfollowed 4)) = true := by kernel_rfl
theorem j11 : ((Rows.fnScriptsRow.recurses == Tryz.pinned.checked.prog.recurses 4)) = true := by kernel_rfl
theorem j12 : ((Rows.fnScriptsRow.named == Tryz.pinned.checked.prog.varsNamed 4)) = true := by kernel_rfl
theorem j13 : ((Rows.fnScriptsRow.maps == (Tryz.f4.params.toList ++ Rows.fnScriptsSpec.plain.varTypes Tryz.pinned.checked.prog).any (Tryz.pinned.checked.prog.mapsRec ·))) = true := by kernel_rfl
theorem j14 : ((Rows.fnScriptsRow.ifaces == (Tryz.f4.params.toList ++ Rows.fnScriptsSpec.plain.varTypes Tryz.pinned.checked.prog).any (Tryz.pinned.checked.prog.ifacesRec ·))) = true := by kernel_rfl
theorem j15 : ((Rows.fnScriptsRow.mapsOut == Tryz.pinned.checked.prog.mapsAmong Tryz.f4.resultTypes.toList)) = true := by kernel_rfl
theorem j16 : ((Rows.fnScriptsRow.loops == (Tryz.f4.params.toList ++ Rows.fnScriptsSpec.plain.varTypes Tryz.pinned.checked.prog).any (Tryz.pinned.checked.prog.loopsFrom ·))) = true := by kernel_rfl
theorem j17 : ((Rows.fnScriptsRow.wideKeys == (Tryz.f4.params.toList ++ Rows.fnScriptsSpec.plain.varTypes Tryz.pinned.checked.prog ++ Tryz.f4.resultTypes.toList).any (Tryz.pinned.checked.prog.wideKeysFrom ·))) = true := by kernel_rfl
theorem j18 : (Rows.fnScriptsSpec.vars.all (Tryz.pinned.checked.prog.varReadable ·)) = true := by kernel_rfl
theorem j19 : (Tryz.f4.resultTypes.all (fun t => Tryz.pinned.checked.prog.readableRec t && decide (t < Tryz.pinned.checked.prog.types.size))) = true := by kernel_rfl
theorem j20 : ((Rows.fnScriptsRow.ifacesOut == Tryz.f4.resultTypes.toList.any (Tryz.pinned.checked.prog.ifacesRec ·))) = true := by kernel_rfl
theorem j21 : ((Rows.fnScriptsRow.loopsOut == Tryz.f4.resultTypes.toList.any (Tryz.pinned.checked.prog.loopsFrom ·))) = true := by kernel_rfl
theorem j22 : ((Rows.fnScriptsRow.plainKeys == Tryz.pinned.checked.prog.plainKeys)) = true := by kernel_rfl
theorem j23 : (Rows.fnScriptsRow.shortTexts.isNone) = true := by kernel_rfl
theorem j24 : (Tryz.pinned.checked.prog.stopsHeard) = true := by kernel_rfl
theorem j25 : (Tryz.pinned.checked.prog.mayEnter) = true := by kernel_rfl
theorem j26 : ((Rows.fnScriptsRow.lifted == Tryz.pinned.checked.prog.liftsFinal)) = true := by kernel_rfl
theorem j27 : ((Tryz.pinned.checked.prog.make == some Rows.fnScriptsRow.make)) = true := by kernel_rfl
theorem j28 : ((Rows.fnScriptsRow.kinds == (if Rows.fnScriptsRow.domain.isEmpty then [] else Tryz.f4.params.toList.map fun t => match Tryz.pinned.checked.prog.underlying t with | some (.int k) => some k | _ => none))) = true := by kernel_rfl
theorem j29 : ((Rows.fnScriptsRow.pinned == Rows.fnScriptsRow.pinnedBy)) = true := by kernel_rfl
theorem j30 : ((Rows.fnScriptsRow.veiled == (Tryz.f4.params.toList ++ Rows.fnScriptsSpec.plain.varTypes Tryz.pinned.checked.prog ++ Tryz.f4.resultTypes.toList).any (Tryz.pinned.checked.prog.veiledRec ·))) = true := by kernel_rfl
theorem j31 : (Rows.fnScriptsRow.veiledFits Tryz.pinned.checked.prog Tryz.f4.params.toList (Tryz.f4.params.toList ++ Rows.fnScriptsSpec.plain.varTypes Tryz.pinned.checked.prog ++ Tryz.f4.resultTypes.toList)) = true := by kernel_rfl
set_option maxRecDepth 100000 in
theorem facts : joinedFacts Tryz.pinned.checked.prog 4 Tryz.f4 Rows.fnScriptsSpec Rows.fnScriptsRow = true := by
  unfold joinedFacts
  exact andB (andB (andB (andB (andB (andB (andB (andB (andB (andB (andB (andB (andB (andB (andB (andB (andB (andB (andB (andB (andB (andB (andB (andB (andB (andB (andB (andB (andB (andB (andB j0 j1) j2) j3) j4) j5) j6) j7) j8) j9) j10) j11) j12) j13) j14) j15) j16) j17) j18) j19) j20) j21) j22) j23) j24) j25) j26) j27) j28) j29) j30) j31
theorem over : Rows.fnScriptsRow.holds Tryz.pinned (OpenSpec.ofChange Rows.fnScriptsSpec) :=
  OpenClaim.holds_of_wide 4 Tryz.f4 rfl rfl rfl rfl rfl rfl rfl ⟨rfl, rfl, rfl, rfl, rfl⟩ rfl rfl rfl rfl rfl (by kernel_rfl) Tryz.func4 facts
    (of_decide_eq_true (by kernel_rfl)) (by unfold Func.isWrapper; first | (rw [if_pos (by decide +kernel)]; kernel_rfl) | (rw [if_neg (by decide +kernel)]; exact ⟨rfl, rfl⟩))
    (fun os started H enc _ => lifted os started H enc)
theorem card : Rows.FnScriptsCardSaid :=
  Claim7.holds_tied_plain_at .later [] [.data, .data, .data, .data, .sentinel, .sentinel, .listed, .data, .pinned] true (true, "8374a3f534e7d15c3369bb7078e6e7aa2d97fcc5bd1efc0e55607aba1c91e1fd") true
    over (fun _ h => by cases h) (by kernel_rfl) (fun _ h => by cases h) fnScripts_row_tie rfl ⟨rfl, rfl⟩ (by kernel_rfl) rfl
    (fun f fn hf hfn => by
      obtain rfl : f = 4 := Option.some.inj ((show Tryz.prog.funcNamed Rows.fnScriptsRow.func = some 4 by kernel_rfl).symm.trans hf) |>.symm
      obtain rfl : fn = Tryz.f4 := (Option.some.inj (Tryz.func4.symm.trans hfn)).symm
      exact ⟨by kernel_rfl, fun j t ht => by
        have hm : t ∈ [22] := by rw [← types]; simpa using Array.mem_of_getElem? ht
        have hall : ([22].all fun u => !Tryz.prog.wantsStandIn u) = true := by kernel_rfl
        exact (show Tryz.prog.wantsStandIn t = false by simpa using List.all_eq_true.1 hall t hm)⟩)
    (by kernel_rfl)
end Go.Proofs.YtjfjniebmdafeaaGreatDoor.fnScripts
namespace Go.Proofs.YtjfjniebmdafeaaGreatDoor
/-- The card, under a short name, for the claim. -/
theorem fnScripts_holds : Rows.FnScriptsCardSaid := fnScripts.card
#print axioms fnScripts_holds
end Go.Proofs.YtjfjniebmdafeaaGreatDoor
