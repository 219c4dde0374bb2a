/- Copies of meshes, and comparing a mesh with itself. -/
import Derived.Test.YtljphlfgkdmahaaP3
namespace Go.Proofs.Ytljphlfgkdmahaa
open Go.Ev
set_option linter.unusedVariables false
set_option linter.unusedSimpArgs false
theorem c_laws_toId (k : Nat) (a b c : Int) : go (k + 1) laws_toId [.agg [.int .i64 a, .int .i64 b, .int .i64 c]] = some [.agg [.int .i64 a, .int .i64 b, .int .i64 c]] := by rw [e_laws_toId]
theorem set_take {α : Type} (l o : List α) (i : Nat) (h : i < l.length) (ho : o.length = l.length) : (o.set i l[i]).take (i + 1) ++ l.drop (i + 1) = o.take i ++ l.drop i := by
  rw [List.drop_eq_getElem_cons h]
  have : (o.set i l[i]).take (i + 1) = o.take i ++ [l[i]] := by
    rw [List.take_succ_eq_append_getElem (by simp; omega)]
    simp [List.take_set_of_le]
  rw [this]; simp
theorem m_laws_toIdS (k : Nat) (fu : List (Nat × Nat)) (z z' : Bool) (l : List (Int × Int × Int)) (hl : (l.length : Int) ≤ 9223372036854775807) : ∀ (n i : Nat) (o : List (Int × Int × Int)), i ≤ l.length → o.length = l.length → l.length - i < n →
    lp (k + 1) laws_toIdS [] fu 3 n ⟨fill 23 [(0, (.sl 0 none)), (3, (.sl 1 none)), (4, (.int .i64 (i : Int)))], [], [(.arr false z (.r3 l)), (.arr true z' (.r3 o))]⟩ = some [.arr true z' (.r3 (o.take i ++ l.drop i))]
  | 0, i, o, hi, ho, hn => by omega
  | n + 1, i, o, hi, ho, hn => by
    rw [l_laws_toIdS_3]
    by_cases h : i < l.length
    · have h1 : decide ((i : Int) < nI l.length) = true := by simp [nI]; omega
      have h1' : decide ((i : Int) < nI o.length) = true := by simp [nI]; omega
      have h2 : decide ((0 : Int) ≤ (i : Int)) = true := by simp
      have h3 : IntKind.wrap .i64 ((i : Int) + 1) = ((i + 1 : Nat) : Int) := by rw [wrapI (by omega) (by omega)]; simp
      simp only [h1, h1', h2, Bool.and_true, cond_true, getD_at h, c_laws_toId, bindS, nth0, cell0, cell1, cell2, toInt_int, h3]
      rw [Int.toNat_natCast]
      rw [m_laws_toIdS k fu z z' l hl n (i + 1) _ (by omega) (by simp [ho]) (by omega)]
      rw [set_take l o i h ho]
    · have h1 : decide ((i : Int) < nI l.length) = false := by simp [nI]; omega
      have hil : i = l.length := by omega
      simp only [h1, cond_false]
      subst hil
      rw [List.drop_length, List.append_nil, List.take_of_length_le (by omega)]
theorem c_laws_toIdS (k : Nat) (z : Bool) (l : List (Int × Int × Int)) (hl : (l.length : Int) ≤ 1048576) (hk : l.length < k) : go (k + 2) laws_toIdS [.arr false z (.r3 l)] = some [.arr true false (.r3 l)] := by
  rw [e_laws_toIdS]
  have h1 : (decide ((0 : Int) ≤ nI l.length) && decide (nI l.length ≤ nI l.length) && decide (nI l.length ≤ nI bigLen)) = true := by
    have e : nI l.length ≤ nI bigLen := by unfold nI bigLen; omega
    have e0 : (0 : Int) ≤ nI l.length := by unfold nI; omega
    rw [decide_eq_true e, decide_eq_true e0, decide_eq_true (Int.le_refl _)]; rfl
  rw [h1, cond_true]
  have := m_laws_toIdS k [] z false l (by omega) (k + 1) 0 (List.replicate (Int.toNat (nI l.length)) zz3) (by omega) (by simp [nI]) (by omega)
  simpa using this
theorem c_laws_toMesh (k : Nat) (roots : Int) (z : Bool) (l : List (Int × Int × Int)) (hl : (l.length : Int) ≤ 1048576) (hk : l.length < k) : go (k + 3) laws_toMesh [.agg [.int .i64 roots, .arr false z (.r3 l)]] = some [.agg [.int .i64 roots, .arr true false (.r3 l)]] := by
  rw [e_laws_toMesh]
  simp only [c_laws_toIdS k z l hl hk, bindS, nth0, nil_arr, r3_arr]
theorem c_laws_eqId (k : Nat) (a b c : Int) : go (k + 1) laws_eqId [.agg [.int .i64 a, .int .i64 b, .int .i64 c], .agg [.int .i64 a, .int .i64 b, .int .i64 c]] = some [.bool true] := by
  rw [e_laws_eqId]; simp
theorem m_laws_eqIdS (k : Nat) (fu : List (Nat × Nat)) (z z' : Bool) (l : List (Int × Int × Int)) (hl : (l.length : Int) ≤ 9223372036854775807) : ∀ (n i : Nat), i ≤ l.length → l.length - i < n →
    lp (k + 1) laws_eqIdS [] fu 4 n ⟨fill 27 [(0, (.sl 0 none)), (1, (.sl 1 none)), (5, (.int .i64 (i : Int)))], [], [(.arr false z (.r3 l)), (.arr false z' (.r3 l))]⟩ = some [.bool true]
  | 0, i, hi, hn => by omega
  | n + 1, i, hi, hn => by
    rw [l_laws_eqIdS_4]
    by_cases h : i < l.length
    · have h1 : decide ((i : Int) < nI l.length) = true := by simp [nI]; omega
      have h2 : decide ((0 : Int) ≤ (i : Int)) = true := by simp
      have h3 : IntKind.wrap .i64 ((i : Int) + 1) = ((i + 1 : Nat) : Int) := by rw [wrapI (by omega) (by omega)]; simp
      simp only [h1, h2, Bool.and_true, cond_true, getD_at h, c_laws_eqId, bindS, nth0, bit, toBool_bool, h3, Bool.not_true, cond_false]
      exact m_laws_eqIdS k fu z z' l hl n (i + 1) (by omega) (by omega)
    · have h1 : decide ((i : Int) < nI l.length) = false := by simp [nI]; omega
      simp only [h1, cond_false]
theorem c_laws_eqIdS (k : Nat) (z z' : Bool) (l : List (Int × Int × Int)) (hl : (l.length : Int) ≤ 1048576) (hk : l.length < k) : go (k + 2) laws_eqIdS [.arr false z (.r3 l), .arr false z' (.r3 l)] = some [.bool true] := by
  rw [e_laws_eqIdS]
  have := m_laws_eqIdS k [] z z' l (by omega) (k + 1) 0 (by omega) (by omega)
  simpa using this
theorem c_laws_eqMesh (k : Nat) (roots : Int) (z z' : Bool) (l : List (Int × Int × Int)) (hl : (l.length : Int) ≤ 1048576) (hk : l.length < k) : go (k + 3) laws_eqMesh [.agg [.int .i64 roots, .arr false z (.r3 l)], .agg [.int .i64 roots, .arr false z' (.r3 l)]] = some [.bool true] := by
  rw [e_laws_eqMesh]
  simp [c_laws_eqIdS k z z' l hl hk, bindS, nth0, bit, toBool_bool]
theorem c_laws_szMesh (k : Nat) (roots : Int) (z : Bool) (l : List (Int × Int × Int)) (hl : (l.length : Int) ≤ 9223372036854775807) : go (k + 2) laws_szMesh [.agg [.int .i64 roots, .arr false z (.r3 l)], .int .i64 1048576] = some [.int .i64 (if (l.length : Int) ≤ 1048576 then 1048576 - l.length else -1)] := by
  rw [e_laws_szMesh, e_laws_szIdS]
  simp only [nI]
  rw [wrapI (x := 1048576 - (l.length : Int)) (by omega) (by omega)]
  by_cases h : (l.length : Int) ≤ 1048576
  · have : ¬ (1048576 - (l.length : Int) < 0) := by omega
    simp [this, h, bindS, nth0, toInt_int]
  · have : (1048576 - (l.length : Int) < 0) := by omega
    simp [this, h, bindS, nth0, toInt_int]
end Go.Proofs.Ytljphlfgkdmahaa
