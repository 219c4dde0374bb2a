/- The law FnExactSafeDistance answers true for every input, and the input reads as it did. No condition. -/
import Derived.Test.YtljphlfgkdmahaaRows
import Derived.Test.YtljphlfgkdmahaaP5
import Derived.WalkKit
import Derived.ProofKit
namespace Go.Proofs.Ytljphlfgkdmahaa.fnExactSafeDistance
open Go.Ev
set_option linter.unusedVariables false
theorem types : Try.f8.params.toList = [39, 3] := by kernel_rfl
set_option maxRecDepth 100000 in
theorem hev (ds : List D) (h : All2 (PFits Try.prog) Try.f8.params.toList ds) : ∃ k, ev Try.prog An k 8 ds = some [.bool true] := by
  rw [types] at h
  cases h with | cons h1 h => cases h with | cons h2 h => cases h with | nil =>
  unfold PFits at h1 h2
  rw [show isAggT Try.prog 39 = true by kernel_rfl, if_pos rfl, show cty Try.prog 39 = [.int .i64, .sl .r3] by kernel_rfl] at h1
  rw [show isAggT Try.prog 3 = false by kernel_rfl, if_neg (by simp), show cty Try.prog 3 = [.int .i64] by kernel_rfl] at h2
  obtain ⟨l, rfl, h1⟩ := h1
  cases h1 with | cons a0 h1 => cases h1 with | cons a1 h1 => cases h1 with | nil =>
  obtain ⟨n0, rfl, w0⟩ := a0
  obtain ⟨z1, ar, rfl, w1, w1l, w1n⟩ := a1
  obtain ⟨c, hc, h2⟩ := h2
  cases hc
  obtain ⟨n2, rfl, w2⟩ := h2
  cases ar with
  | r3 l => exact ⟨l.length + 1 + 8, law_SafeDistance (l.length + 1) n0 z1 l n2 (by simp only [Arr.len, maxLen] at w1l; omega) (by omega)⟩
  | _ => exact w1.elim
set_option maxRecDepth 100000 in
theorem lifted (os : Os) (started : os.Started) (H : Type) (enc : TypeId × Value → H) :
    ReturnsInHanded {} Try.checked os 8 .any (Rows.fnExactSafeDistanceSpec.pre6 enc Try.prog Try.f8 Rows.fnExactSafeDistanceRow.domain false) (Rows.fnExactSafeDistanceSpec.post enc Try.prog Try.f8 false true false false) := by
  refine returns_true (C := Try.checked) (A := An) (tb := 4) ownKnob0 started (by kernel_rfl) Try.func8
    (ChangeSpec.witness6 (enc := enc) (C := Try.checked) false ⟨#[], #[.agg #[.int .i64 0, .slice none 0 0], .int .i64 0], []⟩ 8 (by kernel_rfl) (by kernel_rfl) (by kernel_rfl) (by kernel_rfl))
    good noExt rfl laidOut0 (by kernel_rfl) (by kernel_rfl) (by kernel_rfl) rfl (fun ds h => ?_) hev
  match ds, h with
  | [d0, d1], _ => rfl
theorem over : Rows.fnExactSafeDistanceRow.holds Try.pinned (OpenSpec.ofChange Rows.fnExactSafeDistanceSpec) :=
  OpenClaim.holds_of_wide 8 Try.f8 rfl rfl rfl rfl rfl rfl rfl ⟨rfl, rfl, rfl, rfl, rfl⟩ rfl rfl rfl rfl rfl (by kernel_rfl) Try.func8 (by kernel_rfl)
    (of_decide_eq_true (by kernel_rfl)) (by unfold Func.isWrapper; first | (rw [if_pos (by decide +kernel)]; kernel_rfl) | (rw [if_neg (by decide +kernel)]; exact ⟨rfl, rfl⟩))
    (fun os started H enc _ => lifted os started H enc)
end Go.Proofs.Ytljphlfgkdmahaa.fnExactSafeDistance
namespace Go.Proofs.Ytljphlfgkdmahaa
/-- The row, under a short name, for the claim. -/
theorem fnExactSafeDistance_holds : Rows.FnExactSafeDistanceSaid := fnExactSafeDistance.over
#print axioms fnExactSafeDistance_holds
end Go.Proofs.Ytljphlfgkdmahaa
