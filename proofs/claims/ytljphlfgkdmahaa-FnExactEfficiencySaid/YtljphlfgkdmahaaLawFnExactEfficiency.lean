/- The law FnExactEfficiency answers true for every input, and the input reads as it did. No condition. -/
import Derived.Test.YtljphlfgkdmahaaRows
import Derived.Test.YtljphlfgkdmahaaLK
import Derived.WalkKit
import Derived.ProofKit
namespace Go.Proofs.Ytljphlfgkdmahaa.fnExactEfficiency
open Go.Ev
set_option linter.unusedVariables false
theorem types : Try.f14.params.toList = [39, 22] := by kernel_rfl
set_option maxRecDepth 100000 in
theorem hev (ds : List D) (h : All2 (PFits Try.prog) Try.f14.params.toList ds) : ∃ k, ev Try.prog An k 14 ds = some [.bool true] := by
  rw [types] at h
  cases h with | cons h0 h => cases h with | cons h1 h => cases h with | nil =>
  unfold PFits at h0 h1
  rw [show isAggT Try.prog 39 = true by kernel_rfl, if_pos rfl, show cty Try.prog 39 = [.int .i64, .sl .r3] by kernel_rfl] at h0
  obtain ⟨l0, rfl, h0⟩ := h0
  cases h0 with | cons q0_0 h0 =>
  cases h0 with | cons q0_1 h0 =>
  cases h0 with | nil =>
  rw [show isAggT Try.prog 22 = false by kernel_rfl, if_neg (by simp), show cty Try.prog 22 = [.sl (.int .i64)] by kernel_rfl] at h1
  obtain ⟨c1, hc1, h1⟩ := h1
  cases hc1
  obtain ⟨a0, rfl, w_a0⟩ := q0_0
  obtain ⟨a1z, ar_a1, rfl, wf_a1, wl_a1, wn_a1⟩ := q0_1
  cases ar_a1 with | ints _ _ => exact wf_a1.elim | bools _ => exact wf_a1.elim | strs _ => exact wf_a1.elim | r4 _ => exact wf_a1.elim | r3 a1 =>
  obtain ⟨bz, ar_b, rfl, wf_b, wl_b, wn_b⟩ := h1
  cases ar_b with | bools _ => exact wf_b.elim | strs _ => exact wf_b.elim | r3 _ => exact wf_b.elim | r4 _ => exact wf_b.elim | ints kk_b b =>
  obtain ⟨rfl, wf_b⟩ := wf_b
  have hl_a1 : (a1.length : Int) ≤ 9223372036854775807 := by simp only [Arr.len, maxLen] at wl_a1; omega
  have hl_b : (b.length : Int) ≤ 9223372036854775807 := by simp only [Arr.len, maxLen] at wl_b; omega
  have hu_a0 := (wfBounds w_a0).2
  exact ⟨2000000 + 9, law_Efficiency 2000000 (by omega) a0 a1z a1 bz b hl_a1 hl_b⟩
set_option maxRecDepth 100000 in
theorem lifted (os : Os) (started : os.Started) (H : Type) (enc : TypeId × Value → H) :
    ReturnsInHanded {} Try.checked os 14 .any (Rows.fnExactEfficiencySpec.pre6 enc Try.prog Try.f14 Rows.fnExactEfficiencyRow.domain false) (Rows.fnExactEfficiencySpec.post enc Try.prog Try.f14 false true false false) := by
  refine returns_true (C := Try.checked) (A := An) (tb := 4) ownKnob0 started (by kernel_rfl) Try.func14
    (ChangeSpec.witness6 (enc := enc) (C := Try.checked) false ⟨#[], #[.agg #[.int .i64 0, .slice none 0 0], .slice none 0 0], []⟩ 8 (by kernel_rfl) (by kernel_rfl) (by kernel_rfl) (by kernel_rfl))
    good noExt rfl laidOut0 (by kernel_rfl) (by kernel_rfl) (by kernel_rfl) rfl (fun ds h => ?_) hev
  match ds, h with
  | [d0, d1], _ => rfl
theorem over : Rows.fnExactEfficiencyRow.holds Try.pinned (OpenSpec.ofChange Rows.fnExactEfficiencySpec) :=
  OpenClaim.holds_of_wide 14 Try.f14 rfl rfl rfl rfl rfl rfl rfl ⟨rfl, rfl, rfl, rfl, rfl⟩ rfl rfl rfl rfl rfl (by kernel_rfl) Try.func14 (by kernel_rfl)
    (of_decide_eq_true (by kernel_rfl)) (by unfold Func.isWrapper; first | (rw [if_pos (by decide +kernel)]; kernel_rfl) | (rw [if_neg (by decide +kernel)]; exact ⟨rfl, rfl⟩))
    (fun os started H enc _ => lifted os started H enc)
end Go.Proofs.Ytljphlfgkdmahaa.fnExactEfficiency
namespace Go.Proofs.Ytljphlfgkdmahaa
/-- The row, under a short name, for the claim. -/
theorem fnExactEfficiency_holds : Rows.FnExactEfficiencySaid := fnExactEfficiency.over
#print axioms fnExactEfficiency_holds
end Go.Proofs.Ytljphlfgkdmahaa
