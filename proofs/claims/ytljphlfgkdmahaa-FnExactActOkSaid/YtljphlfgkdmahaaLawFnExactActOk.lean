/- The law FnExactActOk answers true for every input, and the input reads as it did. No condition. -/
import Derived.Test.YtljphlfgkdmahaaRows
import Derived.Test.YtljphlfgkdmahaaX1
import Derived.WalkKit
import Derived.ProofKit
namespace Go.Proofs.Ytljphlfgkdmahaa.fnExactActOk
open Go.Ev
set_option linter.unusedVariables false
theorem own : ownKnob Try.prog.godebug = none := by kernel_rfl
theorem laidOut : laidOutB Try.prog = true := by kernel_rfl
theorem namesB : (Try.prog.funcs.toList.all fun fn => !(fn.name == "runtime.NumGoroutine")) = true := by kernel_rfl
theorem good : Go.Ev.Good Try.prog := by
  refine ⟨fun f fn h => ?_, by kernel_rfl⟩
  have := List.all_eq_true.1 namesB fn (by simpa using Array.mem_of_getElem? h)
  simpa using this
theorem noExt : ∀ f g, An.ext f = some g → ∀ ds rs, g ds = some rs → Contract Try.prog f (An.mode f) ds rs := fun f g h => by cases h
theorem types : Try.f7.params.toList = [32] := by kernel_rfl
set_option maxRecDepth 100000 in
theorem hev (ds : List D) (h : All2 (PFits Try.prog) Try.f7.params.toList ds) : ∃ k, ev Try.prog An k 7 ds = some [.bool true] := by
  rw [types] at h
  cases h with | cons h1 h2 => cases h2 with | nil =>
  unfold PFits at h1
  rw [show isAggT Try.prog 32 = true by kernel_rfl, if_pos rfl, show cty Try.prog 32 = [.int .i64, .int .i64, .int .i64, .int .i64] by kernel_rfl] at h1
  obtain ⟨l, rfl, h1⟩ := h1
  cases h1 with | cons a0 h1 => cases h1 with | cons a1 h1 => cases h1 with | cons a2 h1 => cases h1 with | cons a3 h1 => cases h1 with | nil =>
  obtain ⟨n0, rfl, w0⟩ := a0
  obtain ⟨n1, rfl, w1⟩ := a1
  obtain ⟨n2, rfl, w2⟩ := a2
  obtain ⟨n3, rfl, w3⟩ := a3
  exact ⟨5, act_true 0 n0 n1 n2 n3⟩
set_option maxRecDepth 100000 in
theorem lifted (os : Os) (started : os.Started) (H : Type) (enc : TypeId × Value → H) :
    ReturnsInHanded {} Try.checked os 7 .any (Rows.fnExactActOkSpec.pre6 enc Try.prog Try.f7 Rows.fnExactActOkRow.domain false) (Rows.fnExactActOkSpec.post enc Try.prog Try.f7 false true false false) := by
  refine returns_true (C := Try.checked) (A := An) (tb := 4) own started (by kernel_rfl) Try.func7
    (ChangeSpec.witness6 (enc := enc) (C := Try.checked) false ⟨#[], #[.agg #[.int .i64 0, .int .i64 0, .int .i64 0, .int .i64 0]], []⟩ 8 (by kernel_rfl) (by kernel_rfl) (by kernel_rfl) (by kernel_rfl))
    good noExt rfl laidOut (by kernel_rfl) (by kernel_rfl) (by kernel_rfl) rfl (fun ds h => ?_) hev
  match ds, h with
  | [d], _ => rfl
theorem over : Rows.fnExactActOkRow.holds Try.pinned (OpenSpec.ofChange Rows.fnExactActOkSpec) :=
  OpenClaim.holds_of_wide 7 Try.f7 rfl rfl rfl rfl rfl rfl rfl ⟨rfl, rfl, rfl, rfl, rfl⟩ rfl rfl rfl rfl rfl (by kernel_rfl) Try.func7 (by kernel_rfl)
    (of_decide_eq_true (by kernel_rfl)) (by unfold Func.isWrapper; first | (rw [if_pos (by decide +kernel)]; kernel_rfl) | (rw [if_neg (by decide +kernel)]; exact ⟨rfl, rfl⟩))
    (fun os started H enc _ => lifted os started H enc)
end Go.Proofs.Ytljphlfgkdmahaa.fnExactActOk
namespace Go.Proofs.Ytljphlfgkdmahaa
/-- The row, under a short name, for the claim. -/
theorem fnExactActOk_holds : Rows.FnExactActOkSaid := fnExactActOk.over
#print axioms fnExactActOk_holds
end Go.Proofs.Ytljphlfgkdmahaa
