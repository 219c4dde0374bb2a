/- SafeDistance: both readings agree. -/
import Derived.Test.YtljphlfgkdmahaaP4
namespace Go.Proofs.Ytljphlfgkdmahaa
open Go.Ev
set_option linter.unusedVariables false
set_option linter.unusedSimpArgs false
theorem sh_4 : shiftN .i64 4 = 4 := by decide
def safe (b : Int) : Int := if (b + 15) / 16 * 32 < 128 then (b + 15) / 16 * 32 else 128
theorem safe_spec {b : Int} (h : inR b 0 100000 = true) :
    (if IntKind.wrap .i64 (IntKind.wrap .i64 (Int.tdiv (IntKind.wrap .i64 (IntKind.wrap .i64 (b + (16 : Int)) - (1 : Int))) (16 : Int)) * (32 : Int)) < (128 : Int) then IntKind.wrap .i64 (IntKind.wrap .i64 (Int.tdiv (IntKind.wrap .i64 (IntKind.wrap .i64 (b + (16 : Int)) - (1 : Int))) (16 : Int)) * (32 : Int)) else (128 : Int)) = safe b := by
  simp only [inR, Bool.and_eq_true, decide_eq_true_eq] at h
  have e1 : IntKind.wrap .i64 (b + (16 : Int)) = b + 16 := wrapI (by omega) (by omega)
  have e2 : IntKind.wrap .i64 (b + 16 - (1 : Int)) = b + 15 := by rw [wrapI (by omega) (by omega)]; omega
  have e3 : Int.tdiv (b + 15) 16 = (b + 15) / 16 := Int.tdiv_eq_ediv_of_nonneg (by omega)
  have e4 : IntKind.wrap .i64 ((b + 15) / 16) = (b + 15) / 16 := wrapI (by omega) (by omega)
  have e5 : IntKind.wrap .i64 ((b + 15) / 16 * (32 : Int)) = (b + 15) / 16 * 32 := wrapI (by omega) (by omega)
  rw [e1, e2, e3, e4, e5]; rfl
theorem safe_impl {b : Int} (h : inR b 0 100000 = true) :
    (if IntKind.wrap .i64 (IntKind.wrap .i64 (IntKind.wrap .i64 (Int.tdiv (IntKind.wrap .i64 (IntKind.wrap .i64 (b + (16 : Int)) - (1 : Int))) (16 : Int)) * (2 : Int)) * (2 : Int) ^ shiftN .i64 (4 : Int)) < (128 : Int) then IntKind.wrap .i64 (IntKind.wrap .i64 (IntKind.wrap .i64 (Int.tdiv (IntKind.wrap .i64 (IntKind.wrap .i64 (b + (16 : Int)) - (1 : Int))) (16 : Int)) * (2 : Int)) * (2 : Int) ^ shiftN .i64 (4 : Int)) else (128 : Int)) = safe b := by
  simp only [inR, Bool.and_eq_true, decide_eq_true_eq] at h
  have e1 : IntKind.wrap .i64 (b + (16 : Int)) = b + 16 := wrapI (by omega) (by omega)
  have e2 : IntKind.wrap .i64 (b + 16 - (1 : Int)) = b + 15 := by rw [wrapI (by omega) (by omega)]; omega
  have e3 : Int.tdiv (b + 15) 16 = (b + 15) / 16 := Int.tdiv_eq_ediv_of_nonneg (by omega)
  have e4 : IntKind.wrap .i64 ((b + 15) / 16) = (b + 15) / 16 := wrapI (by omega) (by omega)
  have e5 : IntKind.wrap .i64 ((b + 15) / 16 * (2 : Int)) = (b + 15) / 16 * 2 := wrapI (by omega) (by omega)
  have e6 : IntKind.wrap .i64 ((b + 15) / 16 * 2 * (2 : Int) ^ 4) = (b + 15) / 16 * 32 := by
    have : (2 : Int) ^ 4 = 16 := rfl
    rw [this, wrapI (by omega) (by omega)]; omega
  rw [e1, e2, e3, e4, e5, sh_4, e6]; rfl
theorem safe_same (k : Nat) (roots : Int) (z : Bool) (l : List (Int × Int × Int)) (b : Int) (hl : (l.length : Int) ≤ 1048576) (hk : l.length < k) :
    ∃ n, go (k + 7) spec_SafeDistance [.agg [.int .i64 roots, .arr false z (.r3 l)], .int .i64 b] = some [.int .i64 n] ∧ go (k + 7) impl_SafeDistance [.agg [.int .i64 roots, .arr false z (.r3 l)], .int .i64 b] = some [.int .i64 n] := by
  have h1 := c_spec_MeshOk (k + 1) roots z l (by omega) (by omega)
  have h2 := c_impl_MeshOk k roots z l (by omega) hk
  rw [e_spec_SafeDistance, e_impl_SafeDistance]
  simp only [h1, h2, c_spec_l01In, c_impl_within, bindS, nth0, bit, toBool_bool]
  cases meshGo roots 0 l
  · exact ⟨0, rfl, rfl⟩
  · cases h : inR b 0 100000
    · exact ⟨0, rfl, rfl⟩
    · exact ⟨safe b, by simp only [Bool.not_true, cond_false]; rw [safe_spec h], by simp only [Bool.not_true, cond_false]; rw [safe_impl h]⟩
theorem law_SafeDistance (k : Nat) (roots : Int) (z : Bool) (l : List (Int × Int × Int)) (b : Int) (hl : (l.length : Int) ≤ 9223372036854775807) (hk : l.length < k) :
    go (k + 8) laws_FnExactSafeDistance [.agg [.int .i64 roots, .arr false z (.r3 l)], .int .i64 b] = some [.bool true] := by
  rw [e_laws_FnExactSafeDistance]
  simp only [c_laws_szMesh (k + 5) roots z l hl, bindS, nth0, toInt_int]
  by_cases h : (l.length : Int) ≤ 1048576
  · obtain ⟨n, h1, h2⟩ := safe_same k roots false l b h hk
    have h3 := c_laws_toMesh (k + 4) roots z l h (by omega)
    have h4 := c_laws_eqMesh (k + 4) roots false false l h (by omega)
    have h5 : ¬ ((1048576 : Int) - l.length < 0) := by omega
    simp [h, h5, h1, h2, h3, h4, bindS, nth0, cell0, cell1, toInt_int, nil_arr, r3_arr, bit, toBool_bool]
  · simp [h]
end Go.Proofs.Ytljphlfgkdmahaa
