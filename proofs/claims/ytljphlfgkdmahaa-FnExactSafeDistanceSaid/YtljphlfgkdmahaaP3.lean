/- The mesh: both readings of it agree (second part). -/
import Derived.Test.YtljphlfgkdmahaaP2
namespace Go.Proofs.Ytljphlfgkdmahaa
open Go.Ev
set_option linter.unusedVariables false
set_option linter.unusedSimpArgs false
def startOf (r l i : Int) : Int := if idOk r l i then r * 16 + i * width l else -1
theorem width_le (l : Int) : 0 ≤ width l ∧ width l ≤ 16 := by
  unfold width
  cases h : inR l 0 4
  · simp
  · rcases lev h with rfl | rfl | rfl | rfl | rfl <;> decide
theorem idOk_spec {r l i : Int} (h : idOk r l i = true) : 0 ≤ r ∧ r ≤ 7 ∧ inR l 0 4 = true ∧ 0 ≤ i ∧ i < pow2 l := by
  simp only [idOk, Bool.and_eq_true, decide_eq_true_eq] at h
  obtain ⟨h1, h2, h3, h4⟩ := h
  simp only [inR, Bool.and_eq_true, decide_eq_true_eq] at h1
  exact ⟨h1.1, h1.2, h2, h3, h4⟩
theorem iw {r l i : Int} (h : idOk r l i = true) : 0 ≤ i * width l ∧ i * width l ≤ 256 := by
  obtain ⟨_, _, h2, h3, h4⟩ := idOk_spec h
  have h5 := (pow2_pos h2).2
  have h6 := width_le l
  have h7 : i ≤ 16 := by omega
  refine ⟨Int.mul_nonneg h3 h6.1, ?_⟩
  calc i * width l ≤ 16 * width l := Int.mul_le_mul_of_nonneg_right h7 h6.1
    _ ≤ 16 * 16 := Int.mul_le_mul_of_nonneg_left h6.2 (by omega)
theorem start_le (r l i : Int) : -1 ≤ startOf r l i ∧ startOf r l i ≤ 1000 := by
  unfold startOf
  cases h : idOk r l i
  · simp
  · have := iw h; have := idOk_spec h
    simp; omega
theorem start_wrap {r l i : Int} (h : idOk r l i = true) : IntKind.wrap .i64 (IntKind.wrap .i64 (r * (16 : Int)) + IntKind.wrap .i64 (i * width l)) = startOf r l i := by
  have h1 := iw h; have h2 := idOk_spec h
  rw [wrapI (x := r * 16) (by omega) (by omega), wrapI (x := i * width l) (by omega) (by omega), wrapI (by omega) (by omega)]
  simp [startOf, h]
theorem c_spec_StartOf (k : Nat) (r l i : Int) : go (k + 3) spec_StartOf [.agg [.int .i64 r, .int .i64 l, .int .i64 i]] = some [.int .i64 (startOf r l i)] := by
  rw [e_spec_StartOf]
  simp only [c_spec_IdOk, c_spec_WidthOf, bindS, nth0, bit, toBool_bool, toInt_int]
  cases h : idOk r l i
  · simp [startOf, h]
  · rw [start_wrap h]; rfl
theorem c_impl_StartOf (k : Nat) (r l i : Int) : go (k + 4) impl_StartOf [.agg [.int .i64 r, .int .i64 l, .int .i64 i]] = some [.int .i64 (startOf r l i)] := by
  rw [e_impl_StartOf]
  simp only [c_impl_IdOk, c_impl_WidthOf, bindS, nth0, bit, toBool_bool, toInt_int]
  cases h : idOk r l i
  · simp [startOf, h]
  · rw [start_wrap h]; rfl
theorem end_wrap (r l i : Int) : IntKind.wrap .i64 (startOf r l i + width l) = startOf r l i + width l := by
  have h1 := start_le r l i; have h2 := width_le l
  exact wrapI (by omega) (by omega)
theorem c_spec_l04End (k : Nat) (r l i : Int) : go (k + 4) spec_l04End [.agg [.int .i64 r, .int .i64 l, .int .i64 i]] = some [.int .i64 (startOf r l i + width l)] := by
  rw [e_spec_l04End]
  simp only [c_spec_StartOf, c_spec_WidthOf, bindS, nth0, toInt_int, end_wrap]
theorem c_impl_endOf (k : Nat) (r l i : Int) : go (k + 5) impl_endOf [.agg [.int .i64 r, .int .i64 l, .int .i64 i]] = some [.int .i64 (startOf r l i + width l)] := by
  rw [e_impl_endOf]
  simp only [c_impl_StartOf, c_impl_WidthOf, bindS, nth0, toInt_int, end_wrap]
def meshGo (roots : Int) : Int → List (Int × Int × Int) → Bool
  | pos, [] => inR roots 1 8 && decide (pos = roots * 16)
  | pos, x :: rest => idOk x.1 x.2.1 x.2.2 && (decide (startOf x.1 x.2.1 x.2.2 = pos) && meshGo roots (startOf x.1 x.2.1 x.2.2 + width x.2.1) rest)
theorem mesh_end (roots pos : Int) : cond (inR roots 1 8) (some [D.bool (decide (pos = IntKind.wrap .i64 (roots * (16 : Int))))]) (some [D.bool false]) = some [D.bool (meshGo roots pos [])] := by
  unfold meshGo
  cases h : inR roots 1 8
  · rfl
  · simp only [inR, Bool.and_eq_true, decide_eq_true_eq] at h
    rw [wrapI (by omega) (by omega)]; rfl
theorem getD_at {α : Type} {l : List α} {i : Nat} (h : i < l.length) (d : α) : List.getD l (Int.toNat (i : Int)) d = l[i] := by simp [h]
theorem m_spec_MeshOk (k : Nat) (fu : List (Nat × Nat)) (z : Bool) (l : List (Int × Int × Int)) (roots : Int) (hl : (l.length : Int) ≤ 9223372036854775807) : ∀ (n i : Nat) (pos : Int), i ≤ l.length → l.length - i < n →
    lp (k + 4) spec_MeshOk [] fu 3 n ⟨fill 45 [(1, (.ptr 1 (0) (0))), (3, (.int .i64 pos)), (4, (.int .i64 (i : Int)))], [], [(.arr false z (.r3 l)), (.box true [(.int .i64 roots), (.sl 0 none)])]⟩ = some [.bool (meshGo roots pos (l.drop i))]
  | 0, i, pos, hi, hn => by omega
  | n + 1, i, pos, hi, hn => by
    rw [l_spec_MeshOk_3]
    by_cases h : i < l.length
    · have h1 : decide ((i : Int) < nI l.length) = true := by simp [nI]; omega
      have h2 : decide ((0 : Int) ≤ (i : Int)) = true := by simp
      have h3 : IntKind.wrap .i64 ((i : Int) + 1) = ((i + 1 : Nat) : Int) := by rw [wrapI (by omega) (by omega)]; simp
      rw [List.drop_eq_getElem_cons h]
      simp only [h1, h2, Bool.and_true, cond_true, getD_at h, c_spec_IdOk, c_spec_StartOf, c_spec_l04End, bindS, nth0, bit, toBool_bool, toInt_int, h3, meshGo]
      rw [m_spec_MeshOk k fu z l roots hl n (i + 1) _ (by omega) (by omega)]
      by_cases hp : startOf l[i].1 l[i].2.1 l[i].2.2 = pos <;> cases idOk l[i].1 l[i].2.1 l[i].2.2 <;> simp [hp]
    · have h1 : decide ((i : Int) < nI l.length) = false := by simp [nI]; omega
      rw [List.drop_of_length_le (by omega)]
      simp only [h1, cond_false, c_spec_l01In, bindS, nth0, bit, toBool_bool]
      exact mesh_end roots pos
theorem c_spec_MeshOk (k : Nat) (roots : Int) (z : Bool) (l : List (Int × Int × Int)) (hl : (l.length : Int) ≤ 9223372036854775807) (hk : l.length < k) : go (k + 5) spec_MeshOk [.agg [.int .i64 roots, .arr false z (.r3 l)]] = some [.bool (meshGo roots 0 l)] := by
  rw [e_spec_MeshOk]
  have := m_spec_MeshOk k [] z l roots hl (k + 4) 0 0 (by omega) (by omega)
  simpa using this
theorem m_impl_MeshOk (k : Nat) (fu : List (Nat × Nat)) (z : Bool) (l : List (Int × Int × Int)) (roots : Int) (hl : (l.length : Int) ≤ 9223372036854775807) : ∀ (n i : Nat) (pos : Int), i ≤ l.length → l.length - i < n →
    lp (k + 5) impl_MeshOk [] fu 3 n ⟨fill 35 [(1, (.ptr 1 (0) (0))), (3, (.int .i64 pos)), (7, (.sl 0 none)), (8, (.int .i64 (nI l.length))), (9, (.int .i64 (i : Int)))], [], [(.arr false z (.r3 l)), (.box true [(.int .i64 roots), (.sl 0 none)])]⟩ = some [.bool (meshGo roots pos (l.drop i))]
  | 0, i, pos, hi, hn => by omega
  | n + 1, i, pos, hi, hn => by
    rw [l_impl_MeshOk_3]
    by_cases h : i < l.length
    · have h1 : decide ((i : Int) < nI l.length) = true := by simp [nI]; omega
      have h2 : decide ((0 : Int) ≤ (i : Int)) = true := by simp
      have h3 : IntKind.wrap .i64 ((i : Int) + 1) = ((i + 1 : Nat) : Int) := by rw [wrapI (by omega) (by omega)]; simp
      rw [List.drop_eq_getElem_cons h]
      simp only [h1, h2, Bool.and_true, cond_true, getD_at h, c_impl_IdOk, c_impl_StartOf, c_impl_endOf, bindS, nth0, bit, toBool_bool, toInt_int, h3, meshGo]
      rw [m_impl_MeshOk k fu z l roots hl n (i + 1) _ (by omega) (by omega)]
      by_cases hp : startOf l[i].1 l[i].2.1 l[i].2.2 = pos <;> cases idOk l[i].1 l[i].2.1 l[i].2.2 <;> simp [hp]
    · have h1 : decide ((i : Int) < nI l.length) = false := by simp [nI]; omega
      rw [List.drop_of_length_le (by omega)]
      simp only [h1, cond_false, c_impl_within, bindS, nth0, bit, toBool_bool]
      exact mesh_end roots pos
theorem c_impl_MeshOk (k : Nat) (roots : Int) (z : Bool) (l : List (Int × Int × Int)) (hl : (l.length : Int) ≤ 9223372036854775807) (hk : l.length < k) : go (k + 6) impl_MeshOk [.agg [.int .i64 roots, .arr false z (.r3 l)]] = some [.bool (meshGo roots 0 l)] := by
  rw [e_impl_MeshOk]
  have := m_impl_MeshOk k [] z l roots hl (k + 5) 0 0 (by omega) (by omega)
  simpa using this
end Go.Proofs.Ytljphlfgkdmahaa
