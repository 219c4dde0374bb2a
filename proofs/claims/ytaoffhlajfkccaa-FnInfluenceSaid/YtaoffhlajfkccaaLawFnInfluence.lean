/- The law FnInfluence answers true for every input, and the input reads as it did. No condition. -/
import Derived.Test.YtaoffhlajfkccaaRows
import Derived.Test.YtaoffhlajfkccaaLI
import Derived.WalkKit
import Derived.ProofKit
namespace Go.Proofs.Ytaoffhlajfkccaa.fnInfluence
open Go.Ev
set_option linter.unusedVariables false
theorem types : Try.f4.params.toList = [22] := by kernel_rfl
set_option maxRecDepth 100000 in
theorem hev (ds : List D) (h : All2 (PFits Try.prog) Try.f4.params.toList ds) : ∃ k, ev Try.prog An k 4 ds = some [.bool true] := by
  rw [types] at h
  cases h with | cons h0 h => cases h with | nil =>
  unfold PFits at h0
  rw [show isAggT Try.prog 22 = false by kernel_rfl, if_neg (by simp), show cty Try.prog 22 = [.sl (.int IntKind.u8)] by kernel_rfl] at h0
  obtain ⟨c0, hc0, h0⟩ := h0
  cases hc0
  obtain ⟨az, ar_a, rfl, wf_a, wl_a, wn_a⟩ := h0
  cases ar_a with | bools _ => exact wf_a.elim | strs _ => exact wf_a.elim | r3 _ => exact wf_a.elim | r4 _ => exact wf_a.elim | ints kk_a a =>
  obtain ⟨rfl, wf_a⟩ := wf_a
  have hl_a : (a.length : Int) ≤ 9223372036854775807 := by simp only [Arr.len, maxLen] at wl_a; omega
  exact ⟨2000000 + 13, law_FnInfluence 2000000 (by omega) az a⟩
set_option maxRecDepth 100000 in
theorem lifted (os : Os) (started : os.Started) (H : Type) (enc : TypeId × Value → H) :
    ReturnsInHanded {} Try.checked os 4 .any (Rows.fnInfluenceSpec.pre6 enc Try.prog Try.f4 Rows.fnInfluenceRow.domain false) (Rows.fnInfluenceSpec.post enc Try.prog Try.f4 false true false false) := by
  refine returns_true (C := Try.checked) (A := An) (tb := 4) ownKnob0 started (by kernel_rfl) Try.func4
    (ChangeSpec.witness6 (enc := enc) (C := Try.checked) false ⟨#[], #[.slice none 0 0], []⟩ 8 (by kernel_rfl) (by kernel_rfl) (by kernel_rfl) (by kernel_rfl))
    good noExt rfl laidOut0 (by kernel_rfl) (by kernel_rfl) (by kernel_rfl) rfl (fun ds h => ?_) hev
  match ds, h with
  | [d0], _ => rfl
theorem over : Rows.fnInfluenceRow.holds Try.pinned (OpenSpec.ofChange Rows.fnInfluenceSpec) :=
  OpenClaim.holds_of_wide 4 Try.f4 rfl rfl rfl rfl rfl rfl rfl ⟨rfl, rfl, rfl, rfl, rfl⟩ rfl rfl rfl rfl rfl (by kernel_rfl) Try.func4 (by kernel_rfl)
    (of_decide_eq_true (by kernel_rfl)) (by unfold Func.isWrapper; first | (rw [if_pos (by decide +kernel)]; kernel_rfl) | (rw [if_neg (by decide +kernel)]; exact ⟨rfl, rfl⟩))
    (fun os started H enc _ => lifted os started H enc)
end Go.Proofs.Ytaoffhlajfkccaa.fnInfluence
namespace Go.Proofs.Ytaoffhlajfkccaa
/-- The row, under a short name, for the claim. -/
theorem fnInfluence_holds : Rows.FnInfluenceSaid := fnInfluence.over
#print axioms fnInfluence_holds
end Go.Proofs.Ytaoffhlajfkccaa
