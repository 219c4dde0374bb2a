/- The law FnExactReached answers true for every input, and the input reads as it did. No condition. -/
import Derived.Test.YtljphlfgkdmahaaRows
import Derived.Test.YtljphlfgkdmahaaLRl
import Derived.WalkKit
import Derived.ProofKit
namespace Go.Proofs.Ytljphlfgkdmahaa.fnExactReached
open Go.Ev
set_option linter.unusedVariables false
theorem types : Try.f13.params.toList = [39, 3, 3, 3] := by kernel_rfl
set_option maxRecDepth 100000 in
theorem hev (ds : List D) (h : All2 (PFits Try.prog) Try.f13.params.toList ds) : ∃ k, ev Try.prog An k 13 ds = some [.bool true] := by
  rw [types] at h
  cases h with | cons h0 h => cases h with | cons h1 h => cases h with | cons h2 h => cases h with | cons h3 h => cases h with | nil =>
  unfold PFits at h0 h1 h2 h3
  rw [show isAggT Try.prog 39 = true by kernel_rfl, if_pos rfl, show cty Try.prog 39 = [.int .i64, .sl .r3] by kernel_rfl] at h0
  obtain ⟨l0, rfl, h0⟩ := h0
  cases h0 with | cons q0_0 h0 =>
  cases h0 with | cons q0_1 h0 =>
  cases h0 with | nil =>
  rw [show isAggT Try.prog 3 = false by kernel_rfl, if_neg (by simp), show cty Try.prog 3 = [.int .i64] by kernel_rfl] at h1
  obtain ⟨c1, hc1, h1⟩ := h1
  cases hc1
  rw [show isAggT Try.prog 3 = false by kernel_rfl, if_neg (by simp), show cty Try.prog 3 = [.int .i64] by kernel_rfl] at h2
  obtain ⟨c2, hc2, h2⟩ := h2
  cases hc2
  rw [show isAggT Try.prog 3 = false by kernel_rfl, if_neg (by simp), show cty Try.prog 3 = [.int .i64] by kernel_rfl] at h3
  obtain ⟨c3, hc3, h3⟩ := h3
  cases hc3
  obtain ⟨a0, rfl, w_a0⟩ := q0_0
  obtain ⟨a1z, ar_a1, rfl, wf_a1, wl_a1, wn_a1⟩ := q0_1
  cases ar_a1 with | ints _ _ => exact wf_a1.elim | bools _ => exact wf_a1.elim | strs _ => exact wf_a1.elim | r4 _ => exact wf_a1.elim | r3 a1 =>
  obtain ⟨b, rfl, w_b⟩ := h1
  obtain ⟨c, rfl, w_c⟩ := h2
  obtain ⟨d, rfl, w_d⟩ := h3
  have hl_a1 : (a1.length : Int) ≤ 9223372036854775807 := by simp only [Arr.len, maxLen] at wl_a1; omega
  have hu_a0 := (wfBounds w_a0).2
  have hu_b := (wfBounds w_b).2
  have hu_c := (wfBounds w_c).2
  have hu_d := (wfBounds w_d).2
  exact ⟨2000000 + 8, law_Reached 2000000 (by omega) a0 a1z a1 b c d hl_a1 hu_c hu_d⟩
set_option maxRecDepth 100000 in
theorem lifted (os : Os) (started : os.Started) (H : Type) (enc : TypeId × Value → H) :
    ReturnsInHanded {} Try.checked os 13 .any (Rows.fnExactReachedSpec.pre6 enc Try.prog Try.f13 Rows.fnExactReachedRow.domain false) (Rows.fnExactReachedSpec.post enc Try.prog Try.f13 false true false false) := by
  refine returns_true (C := Try.checked) (A := An) (tb := 4) ownKnob0 started (by kernel_rfl) Try.func13
    (ChangeSpec.witness6 (enc := enc) (C := Try.checked) false ⟨#[], #[.agg #[.int .i64 0, .slice none 0 0], .int .i64 0, .int .i64 0, .int .i64 0], []⟩ 8 (by kernel_rfl) (by kernel_rfl) (by kernel_rfl) (by kernel_rfl))
    good noExt rfl laidOut0 (by kernel_rfl) (by kernel_rfl) (by kernel_rfl) rfl (fun ds h => ?_) hev
  match ds, h with
  | [d0, d1, d2, d3], _ => rfl
theorem over : Rows.fnExactReachedRow.holds Try.pinned (OpenSpec.ofChange Rows.fnExactReachedSpec) :=
  OpenClaim.holds_of_wide 13 Try.f13 rfl rfl rfl rfl rfl rfl rfl ⟨rfl, rfl, rfl, rfl, rfl⟩ rfl rfl rfl rfl rfl (by kernel_rfl) Try.func13 (by kernel_rfl)
    (of_decide_eq_true (by kernel_rfl)) (by unfold Func.isWrapper; first | (rw [if_pos (by decide +kernel)]; kernel_rfl) | (rw [if_neg (by decide +kernel)]; exact ⟨rfl, rfl⟩))
    (fun os started H enc _ => lifted os started H enc)
end Go.Proofs.Ytljphlfgkdmahaa.fnExactReached
namespace Go.Proofs.Ytljphlfgkdmahaa
/-- The row, under a short name, for the claim. -/
theorem fnExactReached_holds : Rows.FnExactReachedSaid := fnExactReached.over
#print axioms fnExactReached_holds
end Go.Proofs.Ytljphlfgkdmahaa
