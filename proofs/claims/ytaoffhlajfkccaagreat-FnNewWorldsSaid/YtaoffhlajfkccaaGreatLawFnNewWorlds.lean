/- The law FnNewWorlds answers true for every input, and the input reads as it did. No condition. -/
import Derived.Test.YtaoffhlajfkccaaGreatRows
import Derived.Test.YtaoffhlajfkccaaGreatLNW
import Derived.WalkKit
import Derived.ProofKit
namespace Go.Proofs.YtaoffhlajfkccaaGreat.fnNewWorlds
open Go.Ev
set_option linter.unusedVariables false
theorem types : Tryz.f3.params.toList = [22] := by kernel_rfl
set_option maxRecDepth 100000 in
theorem hev (ds : List D) (h : All2 (PFits Tryz.prog) Tryz.f3.params.toList ds) : ∃ k, ev Tryz.prog An k 3 ds = some [.bool true] := by
  rw [types] at h
  cases h with | cons h0 h => cases h with | nil =>
  unfold PFits at h0
  rw [show isAggT Tryz.prog 22 = false by kernel_rfl, if_neg (by simp), show cty Tryz.prog 22 = [.sl (.int IntKind.u8)] by kernel_rfl] at h0
  obtain ⟨c0, hc0, h0⟩ := h0
  cases hc0
  obtain ⟨az, ar_a, rfl, wf_a, wl_a, wn_a⟩ := h0
  cases ar_a with | bools _ => exact wf_a.elim | strs _ => exact wf_a.elim | r3 _ => exact wf_a.elim | r4 _ => exact wf_a.elim | ints kk_a a =>
  obtain ⟨rfl, wf_a⟩ := wf_a
  have hl_a : (a.length : Int) ≤ 9223372036854775807 := by simp only [Arr.len, maxLen] at wl_a; omega
  exact ⟨2000000 + 13, law_FnNewWorlds 2000000 (by omega) az a⟩
set_option maxRecDepth 100000 in
theorem lifted (os : Os) (started : os.Started) (H : Type) (enc : TypeId × Value → H) :
    ReturnsInHanded {} Tryz.checked os 3 .any (Rows.fnNewWorldsSpec.pre6 enc Tryz.prog Tryz.f3 Rows.fnNewWorldsRow.domain false) (Rows.fnNewWorldsSpec.post enc Tryz.prog Tryz.f3 false true false false) := by
  refine returns_true (C := Tryz.checked) (A := An) (tb := 4) ownKnob0 started (by kernel_rfl) Tryz.func3
    (ChangeSpec.witness6 (enc := enc) (C := Tryz.checked) false ⟨#[], #[.slice none 0 0], []⟩ 8 (by kernel_rfl) (by kernel_rfl) (by kernel_rfl) (by kernel_rfl))
    good noExt rfl laidOut0 (by kernel_rfl) (by kernel_rfl) (by kernel_rfl) rfl (fun ds h => ?_) hev
  match ds, h with
  | [d0], _ => rfl
theorem over : Rows.fnNewWorldsRow.holds Tryz.pinned (OpenSpec.ofChange Rows.fnNewWorldsSpec) :=
  OpenClaim.holds_of_wide 3 Tryz.f3 rfl rfl rfl rfl rfl rfl rfl ⟨rfl, rfl, rfl, rfl, rfl⟩ rfl rfl rfl rfl rfl (by kernel_rfl) Tryz.func3 (by kernel_rfl)
    (of_decide_eq_true (by kernel_rfl)) (by unfold Func.isWrapper; first | (rw [if_pos (by decide +kernel)]; kernel_rfl) | (rw [if_neg (by decide +kernel)]; exact ⟨rfl, rfl⟩))
    (fun os started H enc _ => lifted os started H enc)
end Go.Proofs.YtaoffhlajfkccaaGreat.fnNewWorlds
namespace Go.Proofs.YtaoffhlajfkccaaGreat
/-- The row, under a short name, for the claim. -/
theorem fnNewWorlds_holds : Rows.FnNewWorldsSaid := fnNewWorlds.over
#print axioms fnNewWorlds_holds
end Go.Proofs.YtaoffhlajfkccaaGreat
