/- The law FnExactTuneHigh answers true for every input, and the input reads as it did. No condition. -/
import Derived.Test.YtfgccfajhedgdaaRows
import Derived.Test.YtfgccfajhedgdaaLTH
import Derived.Test.YtfgccfajhedgdaaRC
import Derived.WalkKit
import Derived.ProofKit
namespace Go.Proofs.Ytfgccfajhedgdaa.fnExactTuneHigh
open Go.Ev
set_option linter.unusedVariables false
theorem types : Try.f13.params.toList = [27, 3, 3] := by kernel_rfl
set_option maxRecDepth 100000 in
theorem hev (ds : List D) (h : All2 (PFits Try.prog) Try.f13.params.toList ds) : ∃ k, ev Try.prog An k 13 ds = some [.bool true] := by
  rw [types] at h
  cases h with | cons h0 h => cases h with | cons h1 h => cases h with | cons h2 h => cases h with | nil =>
  unfold PFits at h0 h1 h2
  rw [show isAggT Try.prog 27 = true by kernel_rfl, if_pos rfl, show cty Try.prog 27 = [.int .i64, .sl .r3, .sl (.int .i64), .sl (.int .i64), .sl (.int .i64)] by kernel_rfl] at h0
  obtain ⟨l0, rfl, h0⟩ := h0
  cases h0 with | cons q0_0 h0 =>
  cases h0 with | cons q0_1 h0 =>
  cases h0 with | cons q0_2 h0 =>
  cases h0 with | cons q0_3 h0 =>
  cases h0 with | cons q0_4 h0 =>
  cases h0 with | nil =>
  rw [show isAggT Try.prog 3 = false by kernel_rfl, if_neg (by simp), show cty Try.prog 3 = [.int .i64] by kernel_rfl] at h1
  obtain ⟨c1, hc1, h1⟩ := h1
  cases hc1
  rw [show isAggT Try.prog 3 = false by kernel_rfl, if_neg (by simp), show cty Try.prog 3 = [.int .i64] by kernel_rfl] at h2
  obtain ⟨c2, hc2, h2⟩ := h2
  cases hc2
  obtain ⟨a0, rfl, w_a0⟩ := q0_0
  obtain ⟨a1z, ar_a1, rfl, wf_a1, wl_a1, wn_a1⟩ := q0_1
  cases ar_a1 with | ints _ _ => exact wf_a1.elim | bools _ => exact wf_a1.elim | strs _ => exact wf_a1.elim | r4 _ => exact wf_a1.elim | r3 a1 =>
  obtain ⟨a2z, ar_a2, rfl, wf_a2, wl_a2, wn_a2⟩ := q0_2
  cases ar_a2 with | bools _ => exact wf_a2.elim | strs _ => exact wf_a2.elim | r3 _ => exact wf_a2.elim | r4 _ => exact wf_a2.elim | ints kk_a2 a2 =>
  obtain ⟨rfl, wf_a2⟩ := wf_a2
  obtain ⟨a3z, ar_a3, rfl, wf_a3, wl_a3, wn_a3⟩ := q0_3
  cases ar_a3 with | bools _ => exact wf_a3.elim | strs _ => exact wf_a3.elim | r3 _ => exact wf_a3.elim | r4 _ => exact wf_a3.elim | ints kk_a3 a3 =>
  obtain ⟨rfl, wf_a3⟩ := wf_a3
  obtain ⟨a4z, ar_a4, rfl, wf_a4, wl_a4, wn_a4⟩ := q0_4
  cases ar_a4 with | bools _ => exact wf_a4.elim | strs _ => exact wf_a4.elim | r3 _ => exact wf_a4.elim | r4 _ => exact wf_a4.elim | ints kk_a4 a4 =>
  obtain ⟨rfl, wf_a4⟩ := wf_a4
  obtain ⟨b, rfl, w_b⟩ := h1
  obtain ⟨c, rfl, w_c⟩ := h2
  have hl_a1 : (a1.length : Int) ≤ 9223372036854775807 := by simp only [Arr.len, maxLen] at wl_a1; omega
  have hl_a2 : (a2.length : Int) ≤ 9223372036854775807 := by simp only [Arr.len, maxLen] at wl_a2; omega
  have hl_a3 : (a3.length : Int) ≤ 9223372036854775807 := by simp only [Arr.len, maxLen] at wl_a3; omega
  have hl_a4 : (a4.length : Int) ≤ 9223372036854775807 := by simp only [Arr.len, maxLen] at wl_a4; omega
  have hu_a0 := (wfBounds w_a0).2
  have hu_b := (wfBounds w_b).2
  have hu_c := (wfBounds w_c).2
  exact ⟨2000000 + 13, law_TuneHigh 2000000 (by omega) a0 a1z a1 a2z a2 a3z a3 a4z a4 b c hl_a1 hl_a2 hl_a3 hl_a4⟩
set_option maxRecDepth 100000 in
theorem lifted (os : Os) (started : os.Started) (H : Type) (enc : TypeId × Value → H) :
    ReturnsInHanded {} Try.checked os 13 .any (Rows.fnExactTuneHighSpec.pre6 enc Try.prog Try.f13 Rows.fnExactTuneHighRow.domain false) (Rows.fnExactTuneHighSpec.post enc Try.prog Try.f13 false true false false) := by
  refine returns_true (C := Try.checked) (A := An) (tb := 4) ownKnob0 started (by kernel_rfl) Try.func13
    (ChangeSpec.witness6 (enc := enc) (C := Try.checked) false ⟨#[], #[.agg #[.int .i64 0, .slice none 0 0, .slice none 0 0, .slice none 0 0, .slice none 0 0], .int .i64 0, .int .i64 0], []⟩ 8 (by kernel_rfl) (by kernel_rfl) (by kernel_rfl) (by kernel_rfl))
    good withExt rfl laidOut0 (by kernel_rfl) (by kernel_rfl) (by kernel_rfl) rfl (fun ds h => ?_) hev
  match ds, h with
  | [d0, d1, d2], _ => rfl
theorem over : Rows.fnExactTuneHighRow.holds Try.pinned (OpenSpec.ofChange Rows.fnExactTuneHighSpec) :=
  OpenClaim.holds_of_wide 13 Try.f13 rfl rfl rfl rfl rfl rfl rfl ⟨rfl, rfl, rfl, rfl, rfl⟩ rfl rfl rfl rfl rfl (by kernel_rfl) Try.func13 (by kernel_rfl)
    (of_decide_eq_true (by kernel_rfl)) (by unfold Func.isWrapper; first | (rw [if_pos (by decide +kernel)]; kernel_rfl) | (rw [if_neg (by decide +kernel)]; exact ⟨rfl, rfl⟩))
    (fun os started H enc _ => lifted os started H enc)
end Go.Proofs.Ytfgccfajhedgdaa.fnExactTuneHigh
namespace Go.Proofs.Ytfgccfajhedgdaa
/-- The row, under a short name, for the claim. -/
theorem fnExactTuneHigh_holds : Rows.FnExactTuneHighSaid := fnExactTuneHigh.over
#print axioms fnExactTuneHigh_holds
end Go.Proofs.Ytfgccfajhedgdaa
