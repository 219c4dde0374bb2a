/- The law FnExactRunScript answers true for every input, and the input reads as it did; the tables of the standard packages hold what the text of the program lays (the card ties them). -/
import Derived.Test.YtjfjniebmdafeaaGreatDoorRows
import Derived.Test.YtjfjniebmdafeaaGreatDoorQR5
import Derived.Test.YtjfjniebmdafeaaGreatDoorSLL
import Derived.Test.YtjfjniebmdafeaaGreatDoorCards
import Derived.Test.YtjfjniebmdafeaaGreatDoorTie
import Derived.Lay
import Derived.LaidLaws
import Derived.LaidSub
import Derived.Stop.LaidErr
import Derived.MakeChecks
import Derived.SevenTiedAt
import Derived.WalkKit
import Derived.ProofKit
namespace Go.Proofs.YtjfjniebmdafeaaGreatDoor.fnExactRunScript
open Go.Ev Go.Lib Go.RowKit
set_option linter.unusedVariables false
theorem types : Tryz.f5.params.toList = [65, 9] := by kernel_rfl
set_option maxRecDepth 100000 in
theorem hev (ds : List D) (h : All2 (PFits Tryz.prog) Tryz.f5.params.toList ds) : ∃ k, ev Tryz.prog An k 5 ds = some [.bool true] := by
  rw [types] at h
  cases h with | cons h0 h => cases h with | cons h1 h => cases h with | nil =>
  unfold PFits at h0 h1
  rw [show isAggT Tryz.prog 65 = true by kernel_rfl, if_pos rfl, show cty Tryz.prog 65 = [.int .i64, .sl .r3, .sl (.int .i64), .sl (.int .i64), .sl (.int .i64), .int .i64, .int .i64, .int .i64, .int .i64, .int .i64, .int .i64, .int .i64, .int .i64, .int .i64, .int .i64, .int .i64, .int .i64, .int .i64, .int .i64, .int .i64, .int .i64] by kernel_rfl] at h0
  obtain ⟨l0, rfl, h0⟩ := h0
  cases h0 with | cons q0_0 h0 =>
  cases h0 with | cons q0_1 h0 =>
  cases h0 with | cons q0_2 h0 =>
  cases h0 with | cons q0_3 h0 =>
  cases h0 with | cons q0_4 h0 =>
  cases h0 with | cons q0_5 h0 =>
  cases h0 with | cons q0_6 h0 =>
  cases h0 with | cons q0_7 h0 =>
  cases h0 with | cons q0_8 h0 =>
  cases h0 with | cons q0_9 h0 =>
  cases h0 with | cons q0_10 h0 =>
  cases h0 with | cons q0_11 h0 =>
  cases h0 with | cons q0_12 h0 =>
  cases h0 with | cons q0_13 h0 =>
  cases h0 with | cons q0_14 h0 =>
  cases h0 with | cons q0_15 h0 =>
  cases h0 with | cons q0_16 h0 =>
  cases h0 with | cons q0_17 h0 =>
  cases h0 with | cons q0_18 h0 =>
  cases h0 with | cons q0_19 h0 =>
  cases h0 with | cons q0_20 h0 =>
  cases h0 with | nil =>
  rw [show isAggT Tryz.prog 9 = false by kernel_rfl, if_neg (by simp), show cty Tryz.prog 9 = [.str] by kernel_rfl] at h1
  obtain ⟨c1, hc1, h1⟩ := h1
  cases hc1
  obtain ⟨a0, rfl, w_a0⟩ := q0_0
  obtain ⟨a1z, ar_a1, rfl, wf_a1, wl_a1, wn_a1⟩ := q0_1
  cases ar_a1 with | ints _ _ => exact wf_a1.elim | bools _ => exact wf_a1.elim | strs _ => exact wf_a1.elim | r4 _ => exact wf_a1.elim | r3 a1 =>
  obtain ⟨a2z, ar_a2, rfl, wf_a2, wl_a2, wn_a2⟩ := q0_2
  cases ar_a2 with | bools _ => exact wf_a2.elim | strs _ => exact wf_a2.elim | r3 _ => exact wf_a2.elim | r4 _ => exact wf_a2.elim | ints kk_a2 a2 =>
  obtain ⟨rfl, wf_a2⟩ := wf_a2
  obtain ⟨a3z, ar_a3, rfl, wf_a3, wl_a3, wn_a3⟩ := q0_3
  cases ar_a3 with | bools _ => exact wf_a3.elim | strs _ => exact wf_a3.elim | r3 _ => exact wf_a3.elim | r4 _ => exact wf_a3.elim | ints kk_a3 a3 =>
  obtain ⟨rfl, wf_a3⟩ := wf_a3
  obtain ⟨a4z, ar_a4, rfl, wf_a4, wl_a4, wn_a4⟩ := q0_4
  cases ar_a4 with | bools _ => exact wf_a4.elim | strs _ => exact wf_a4.elim | r3 _ => exact wf_a4.elim | r4 _ => exact wf_a4.elim | ints kk_a4 a4 =>
  obtain ⟨rfl, wf_a4⟩ := wf_a4
  obtain ⟨a5, rfl, w_a5⟩ := q0_5
  obtain ⟨a6, rfl, w_a6⟩ := q0_6
  obtain ⟨a7, rfl, w_a7⟩ := q0_7
  obtain ⟨a8, rfl, w_a8⟩ := q0_8
  obtain ⟨a9, rfl, w_a9⟩ := q0_9
  obtain ⟨a10, rfl, w_a10⟩ := q0_10
  obtain ⟨a11, rfl, w_a11⟩ := q0_11
  obtain ⟨a12, rfl, w_a12⟩ := q0_12
  obtain ⟨a13, rfl, w_a13⟩ := q0_13
  obtain ⟨a14, rfl, w_a14⟩ := q0_14
  obtain ⟨a15, rfl, w_a15⟩ := q0_15
  obtain ⟨a16, rfl, w_a16⟩ := q0_16
  obtain ⟨a17, rfl, w_a17⟩ := q0_17
  obtain ⟨a18, rfl, w_a18⟩ := q0_18
  obtain ⟨a19, rfl, w_a19⟩ := q0_19
  obtain ⟨a20, rfl, w_a20⟩ := q0_20
  obtain ⟨b, rfl, w_b⟩ := h1
  have hl_a1 : (a1.length : Int) ≤ 9223372036854775807 := by simp only [Arr.len, maxLen] at wl_a1; omega
  have hl_a2 : (a2.length : Int) ≤ 9223372036854775807 := by simp only [Arr.len, maxLen] at wl_a2; omega
  have hl_a3 : (a3.length : Int) ≤ 9223372036854775807 := by simp only [Arr.len, maxLen] at wl_a3; omega
  have hl_a4 : (a4.length : Int) ≤ 9223372036854775807 := by simp only [Arr.len, maxLen] at wl_a4; omega
  exact ⟨2000000 + 17, law_RunScript 2000000 (by omega) a0 a1z a1 a2z a2 a3z a3 a4z a4 a5 a6 a7 a8 a9 a10 a11 a12 a13 a14 a15 a16 a17 a18 a19 a20 b hl_a1 hl_a2 hl_a3 hl_a4⟩
def errN : String := match (Rows.fnExactRunScriptRow.laid.getD 4 ("", .nil)).2 with | .iface n _ => n | _ => ""
theorem tabP : Tryz.prog.globalNamed (Rows.fnExactRunScriptRow.laid.getD 2 ("", .nil)).1 = some 3 := by kernel_rfl
theorem laidP : Rows.fnExactRunScriptRow.laid.filter (fun x => x.1 == (Rows.fnExactRunScriptRow.laid.getD 2 ("", .nil)).1) = [((Rows.fnExactRunScriptRow.laid.getD 2 ("", .nil)).1, tabData .u64 pow10Tab)] := by kernel_rfl
theorem tabA : Tryz.prog.globalNamed (Rows.fnExactRunScriptRow.laid.getD 7 ("", .nil)).1 = some 0 := by kernel_rfl
theorem laidA : Rows.fnExactRunScriptRow.laid.filter (fun x => x.1 == (Rows.fnExactRunScriptRow.laid.getD 7 ("", .nil)).1) = [((Rows.fnExactRunScriptRow.laid.getD 7 ("", .nil)).1, tabData .u8 asciiSpaceTab)] := by kernel_rfl
theorem tabY : Tryz.prog.globalNamed (Rows.fnExactRunScriptRow.laid.getD 5 ("", .nil)).1 = some 6 := by kernel_rfl
theorem laidY : Rows.fnExactRunScriptRow.laid.filter (fun x => x.1 == (Rows.fnExactRunScriptRow.laid.getD 5 ("", .nil)).1) = [((Rows.fnExactRunScriptRow.laid.getD 5 ("", .nil)).1, .iface errN (.ptr (.agg [.lit (.string [105, 110, 118, 97, 108, 105, 100, 32, 115, 121, 110, 116, 97, 120])])))] := by kernel_rfl
theorem tabR : Tryz.prog.globalNamed (Rows.fnExactRunScriptRow.laid.getD 4 ("", .nil)).1 = some 7 := by kernel_rfl
theorem laidR : Rows.fnExactRunScriptRow.laid.filter (fun x => x.1 == (Rows.fnExactRunScriptRow.laid.getD 4 ("", .nil)).1) = [((Rows.fnExactRunScriptRow.laid.getD 4 ("", .nil)).1, .iface errN (.ptr (.agg [.lit (.string [118, 97, 108, 117, 101, 32, 111, 117, 116, 32, 111, 102, 32, 114, 97, 110, 103, 101])])))] := by kernel_rfl
theorem rowErr (u : TypeId) (h : Tryz.prog.typeName? 3 u = some errN) : u = 269 := typeName_ptr_named (nm := "errors.errorString") (by kernel_rfl) (by kernel_rfl) (by decide) u (h.trans (by kernel_rfl))
theorem kept_of (w : World) (hsh : w.ShapedOpen Tryz.prog) (h : laidMetH Tryz.prog Rows.fnExactRunScriptRow.laid w) : Kept w := by
  have hP := h.filter fun x => x.1 == (Rows.fnExactRunScriptRow.laid.getD 2 ("", .nil)).1
  rw [laidP, MakeChecks.laidMetH_plain _ _ _ (by kernel_rfl)] at hP
  have hA := h.filter fun x => x.1 == (Rows.fnExactRunScriptRow.laid.getD 7 ("", .nil)).1
  rw [laidA, MakeChecks.laidMetH_plain _ _ _ (by kernel_rfl)] at hA
  have hY := h.filter fun x => x.1 == (Rows.fnExactRunScriptRow.laid.getD 5 ("", .nil)).1
  rw [laidY, MakeChecks.laidMetH_plain _ _ _ (by kernel_rfl)] at hY
  have hR := h.filter fun x => x.1 == (Rows.fnExactRunScriptRow.laid.getD 4 ("", .nil)).1
  rw [laidR, MakeChecks.laidMetH_plain _ _ _ (by kernel_rfl)] at hR
  obtain ⟨aY, sY, vY, _⟩ := laid_sentinel hY tabY (by kernel_rfl) Tryz.underlying119 rowErr Tryz.underlying269 Tryz.underlying271 rfl rfl Tryz.underlying9 (by kernel_rfl) (by kernel_rfl)
  obtain ⟨aR, sR, vR, _⟩ := laid_sentinel hR tabR (by kernel_rfl) Tryz.underlying119 rowErr Tryz.underlying269 Tryz.underlying271 rfl rfl Tryz.underlying9 (by kernel_rfl) (by kernel_rfl)
  exact kept_of4 tabP tabA tabY tabR (tabIs_of_head tabP (by kernel_rfl) Tryz.underlying244 Tryz.underlying214 (by kernel_rfl) (by kernel_rfl) hP) (tabIs_of_head tabA (by kernel_rfl) Tryz.underlying169 Tryz.underlying5 (by kernel_rfl) (by kernel_rfl) hA) ⟨_, _, vY⟩ ⟨_, _, vR⟩
    (cell_of_shapedOpen_int (P := Tryz.prog) (g := 2) (t := 3) (zero := #[.int .i64 0]) hsh (of_decide_eq_true (by kernel_rfl)) (by kernel_rfl) rfl (by kernel_rfl) (by kernel_rfl) Tryz.underlying3)
set_option maxRecDepth 100000 in
theorem lifted (os : Os) (started : os.Started) (H : Type) (enc : TypeId × Value → H) :
    ReturnsInHanded {} Tryz.checked os 5 .any (fun w args => (Rows.fnExactRunScriptSpec.pre enc Tryz.prog Tryz.f5 Rows.fnExactRunScriptRow.domain false w args ∧ laidMetH Tryz.prog Rows.fnExactRunScriptRow.laid w) ∧ sizedMet enc Tryz.prog Tryz.f5 (OpenSpec.ofChange Rows.fnExactRunScriptSpec) false w args) (Rows.fnExactRunScriptSpec.post enc Tryz.prog Tryz.f5 false true false false) := by
  refine returns_laidS (X := fun w => laidMetH Tryz.prog Rows.fnExactRunScriptRow.laid w) (C := Tryz.checked) (A := An) (tb := 4) (fun _ _ hh h => h.of_heap hh) kept_of ownKnob0 started (by kernel_rfl) Tryz.func5
    (ChangeSpec.witness_shaped (enc := enc) (C := Tryz.checked) (os := os) (X := fun w _ => laidMetH Tryz.prog Rows.fnExactRunScriptRow.laid w) false (World.laidAll Tryz.prog os Rows.fnExactRunScriptRow.laid) #[.agg #[.int .i64 0, .slice none 0 0, .slice none 0 0, .slice none 0 0, .slice none 0 0, .int .i64 0, .int .i64 0, .int .i64 0, .int .i64 0, .int .i64 0, .int .i64 0, .int .i64 0, .int .i64 0, .int .i64 0, .int .i64 0, .int .i64 0, .int .i64 0, .int .i64 0, .int .i64 0, .int .i64 0, .int .i64 0], .string .empty] 8 (World.laidAll_os _ _ _)
      (World.shaped_of_ZipB (by kernel_rfl) (by kernel_rfl)) (by kernel_rfl) (by kernel_rfl) (by kernel_rfl)
      (by rw [MakeChecks.laidMetH_plain _ _ _ (by kernel_rfl)]; exact laidMet_laidAll _ (by kernel_rfl) (by kernel_rfl)))
    good withExt rfl laidOut0 (by kernel_rfl) (by kernel_rfl) (by kernel_rfl) rfl (fun ds h => ?_) hev
  match ds, h with
  | [d0, d1], _ => rfl
theorem andB {a b : Bool} (ha : a = true) (hb : b = true) : (a && b) = true := by rw [ha, hb]; rfl
theorem j0 : (Rows.fnExactRunScriptRow.wf (OpenSpec.ofChange Rows.fnExactRunScriptSpec)) = true := by kernel_rfl
theorem j1 : (laidOutB Tryz.pinned.checked.prog) = true := by kernel_rfl
theorem j2 : (mapsRowed Tryz.pinned.checked.prog) = true := by kernel_rfl
theorem j3 : (Tryz.f5.params.all (Tryz.pinned.checked.prog.readableRec ·)) = true := by kernel_rfl
theorem j4 : (namedTie Tryz.pinned.checked.prog Rows.fnExactRunScriptRow.named Rows.fnExactRunScriptSpec.vars) = true := by kernel_rfl
theorem j5 : ((Rows.fnExactRunScriptRow.stops == [])) = true := by kernel_rfl
theorem j6 : ((Tryz.pinned.checked.prog.stops == [])) = true := by kernel_rfl
theorem j7 : ((Rows.fnExactRunScriptRow.knobs == [])) = true := by kernel_rfl
theorem j8 : ((Tryz.pinned.checked.prog.stopKnobs == [])) = true := by kernel_rfl
theorem j9 : ((Rows.fnExactRunScriptRow.inPlace == Tryz.pinned.checked.prog.inPlace 5)) = true := by kernel_rfl
theorem j10 : ((Rows.fnExactRunScriptRow.unfollowed == Tryz.pinned.checked.prog.unfollowed 5)) = true := by kernel_rfl
theorem j11 : ((Rows.fnExactRunScriptRow.recurses == Tryz.pinned.checked.prog.recurses 5)) = true := by kernel_rfl
theorem j12 : ((Rows.fnExactRunScriptRow.named == Tryz.pinned.checked.prog.varsNamed 5)) = true := by kernel_rfl
theorem j13 : ((Rows.fnExactRunScriptRow.maps == (Tryz.f5.params.toList ++ Rows.fnExactRunScriptSpec.plain.varTypes Tryz.pinned.checked.prog).any (Tryz.pinned.checked.prog.mapsRec ·))) = true := by kernel_rfl
theorem j14 : ((Rows.fnExactRunScriptRow.ifaces == (Tryz.f5.params.toList ++ Rows.fnExactRunScriptSpec.plain.varTypes Tryz.pinned.checked.prog).any (Tryz.pinned.checked.prog.ifacesRec ·))) = true := by kernel_rfl
theorem j15 : ((Rows.fnExactRunScriptRow.mapsOut == Tryz.pinned.checked.prog.mapsAmong Tryz.f5.resultTypes.toList)) = true := by kernel_rfl
theorem j16 : ((Rows.fnExactRunScriptRow.loops == (Tryz.f5.params.toList ++ Rows.fnExactRunScriptSpec.plain.varTypes Tryz.pinned.checked.prog).any (Tryz.pinned.checked.prog.loopsFrom ·))) = true := by kernel_rfl
theorem j17 : ((Rows.fnExactRunScriptRow.wideKeys == (Tryz.f5.params.toList ++ Rows.fnExactRunScriptSpec.plain.varTypes Tryz.pinned.checked.prog ++ Tryz.f5.resultTypes.toList).any (Tryz.pinned.checked.prog.wideKeysFrom ·))) = true := by kernel_rfl
theorem j18 : (Rows.fnExactRunScriptSpec.vars.all (Tryz.pinned.checked.prog.varReadable ·)) = true := by kernel_rfl
theorem j19 : (Tryz.f5.resultTypes.all (fun t => Tryz.pinned.checked.prog.readableRec t && decide (t < Tryz.pinned.checked.prog.types.size))) = true := by kernel_rfl
theorem j20 : ((Rows.fnExactRunScriptRow.ifacesOut == Tryz.f5.resultTypes.toList.any (Tryz.pinned.checked.prog.ifacesRec ·))) = true := by kernel_rfl
theorem j21 : ((Rows.fnExactRunScriptRow.loopsOut == Tryz.f5.resultTypes.toList.any (Tryz.pinned.checked.prog.loopsFrom ·))) = true := by kernel_rfl
theorem j22 : ((Rows.fnExactRunScriptRow.plainKeys == Tryz.pinned.checked.prog.plainKeys)) = true := by kernel_rfl
theorem j23 : (Rows.fnExactRunScriptRow.shortTexts.isNone) = true := by kernel_rfl
theorem j24 : (Tryz.pinned.checked.prog.stopsHeard) = true := by kernel_rfl
theorem j25 : (Tryz.pinned.checked.prog.mayEnter) = true := by kernel_rfl
theorem j26 : ((Rows.fnExactRunScriptRow.lifted == Tryz.pinned.checked.prog.liftsFinal)) = true := by kernel_rfl
theorem j27 : ((Tryz.pinned.checked.prog.make == some Rows.fnExactRunScriptRow.make)) = true := by kernel_rfl
theorem j28 : ((Rows.fnExactRunScriptRow.kinds == (if Rows.fnExactRunScriptRow.domain.isEmpty then [] else Tryz.f5.params.toList.map fun t => match Tryz.pinned.checked.prog.underlying t with | some (.int k) => some k | _ => none))) = true := by kernel_rfl
theorem j29 : ((Rows.fnExactRunScriptRow.pinned == Rows.fnExactRunScriptRow.pinnedBy)) = true := by kernel_rfl
theorem j30 : ((Rows.fnExactRunScriptRow.veiled == (Tryz.f5.params.toList ++ Rows.fnExactRunScriptSpec.plain.varTypes Tryz.pinned.checked.prog ++ Tryz.f5.resultTypes.toList).any (Tryz.pinned.checked.prog.veiledRec ·))) = true := by kernel_rfl
theorem j31 : (Rows.fnExactRunScriptRow.veiledFits Tryz.pinned.checked.prog Tryz.f5.params.toList (Tryz.f5.params.toList ++ Rows.fnExactRunScriptSpec.plain.varTypes Tryz.pinned.checked.prog ++ Tryz.f5.resultTypes.toList)) = true := by kernel_rfl
set_option maxRecDepth 100000 in
theorem facts : joinedFacts Tryz.pinned.checked.prog 5 Tryz.f5 Rows.fnExactRunScriptSpec Rows.fnExactRunScriptRow = true := by
  unfold joinedFacts
  exact andB (andB (andB (andB (andB (andB (andB (andB (andB (andB (andB (andB (andB (andB (andB (andB (andB (andB (andB (andB (andB (andB (andB (andB (andB (andB (andB (andB (andB (andB (andB j0 j1) j2) j3) j4) j5) j6) j7) j8) j9) j10) j11) j12) j13) j14) j15) j16) j17) j18) j19) j20) j21) j22) j23) j24) j25) j26) j27) j28) j29) j30) j31
theorem over : Rows.fnExactRunScriptRow.holds Tryz.pinned (OpenSpec.ofChange Rows.fnExactRunScriptSpec) :=
  OpenClaim.holds_of_wide 5 Tryz.f5 rfl rfl rfl rfl rfl rfl rfl ⟨rfl, rfl, rfl, rfl, rfl⟩ rfl rfl rfl rfl rfl (by kernel_rfl) Tryz.func5 facts
    (of_decide_eq_true (by kernel_rfl)) (by unfold Func.isWrapper; first | (rw [if_pos (by decide +kernel)]; kernel_rfl) | (rw [if_neg (by decide +kernel)]; exact ⟨rfl, rfl⟩))
    (fun os started H enc _ => lifted os started H enc)
theorem card : Rows.FnExactRunScriptCardSaid :=
  Claim7.holds_tied_plain_at .later [] [.data, .data, .data, .data, .sentinel, .sentinel, .listed, .data, .pinned] true (true, "8374a3f534e7d15c3369bb7078e6e7aa2d97fcc5bd1efc0e55607aba1c91e1fd") true
    over (fun _ h => by cases h) (by kernel_rfl) (fun _ h => by cases h) fnExactRunScript_row_tie rfl ⟨rfl, rfl⟩ (by kernel_rfl) rfl
    (fun f fn hf hfn => by
      obtain rfl : f = 5 := Option.some.inj ((show Tryz.prog.funcNamed Rows.fnExactRunScriptRow.func = some 5 by kernel_rfl).symm.trans hf) |>.symm
      obtain rfl : fn = Tryz.f5 := (Option.some.inj (Tryz.func5.symm.trans hfn)).symm
      exact ⟨by kernel_rfl, fun j t ht => by
        have hm : t ∈ [65, 9] := by rw [← types]; simpa using Array.mem_of_getElem? ht
        have hall : ([65, 9].all fun u => !Tryz.prog.wantsStandIn u) = true := by kernel_rfl
        exact (show Tryz.prog.wantsStandIn t = false by simpa using List.all_eq_true.1 hall t hm)⟩)
    (by kernel_rfl)
end Go.Proofs.YtjfjniebmdafeaaGreatDoor.fnExactRunScript
namespace Go.Proofs.YtjfjniebmdafeaaGreatDoor
/-- The card, under a short name, for the claim. -/
theorem fnExactRunScript_holds : Rows.FnExactRunScriptCardSaid := fnExactRunScript.card
#print axioms fnExactRunScript_holds
end Go.Proofs.YtjfjniebmdafeaaGreatDoor
