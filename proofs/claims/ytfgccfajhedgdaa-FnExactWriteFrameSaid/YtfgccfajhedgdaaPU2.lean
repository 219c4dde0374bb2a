/- Positions, profiles, bars: both readings agree. -/
import Derived.Test.YtfgccfajhedgdaaPU
namespace Go.Proofs.Ytfgccfajhedgdaa
open Go.Ev
set_option linter.unusedVariables false
set_option linter.unusedSimpArgs false
abbrev cst (x : Cell) : Int := startOf x.1 x.2.1 x.2.2
def leafGo (pos : Int) (l : List Cell) : Nat → Nat → Int
  | 0, _ => -1
  | n + 1, i => cond (decide (cst (l.getD i zz3) ≤ pos) && decide (pos < cst (l.getD i zz3) + width (l.getD i zz3).2.1)) (i : Int) (leafGo pos l n (i + 1))
theorem leafGo_le (pos : Int) (l : List Cell) : ∀ (n i : Nat), -1 ≤ leafGo pos l n i ∧ leafGo pos l n i < ((i + n : Nat) : Int) ∧ (0 ≤ leafGo pos l n i → (i : Int) ≤ leafGo pos l n i)
  | 0, i => by simp [leafGo]; omega
  | n + 1, i => by
    have := leafGo_le pos l n (i + 1)
    unfold leafGo
    cases (decide (cst (l.getD i zz3) ≤ pos) && decide (pos < cst (l.getD i zz3) + width (l.getD i zz3).2.1))
    · simp only [condF]; omega
    · simp only [condT]; omega
def leafAt (r : Int) (l : List Cell) (pos : Int) : Int := cond (meshGo r 0 l) (leafGo pos l l.length 0) (-1)
theorem leafAt_le (r : Int) (l : List Cell) (pos : Int) : -1 ≤ leafAt r l pos ∧ leafAt r l pos < l.length := by
  unfold leafAt
  cases meshGo r 0 l
  · simp; omega
  · have := leafGo_le pos l l.length 0; simp only [condT]; omega
theorem c_LeafAt_1 (k : Nat) (hk : 2000000 ≤ k) (a b c pos : Int) : go (k + 6) impl_LeafAt_1 [.agg [.int .i64 a, .int .i64 b, .int .i64 c], .ptr false [.int .i64 pos]] = some [.bool (decide (startOf a b c ≤ pos) && decide (pos < startOf a b c + width b))] := by
  rw [e_impl_LeafAt_1_v1]
  simp (disch := omega) only [bindS, nth0, nth1, nth2, nth3, bit, cell0, cell1, cell2, cell3, cell4, cell5, cell6, cell7, cell8, cell9, cell10, cell11, cell12, cell13, cell14, cell15, cell16, cell17, cell18, cell19, cell20, cell21, cell22, cell23, toInt_int, toBool_bool, toStr_str, nil_arr, r3_arr, r4_arr, ints_arr, bools_arr, strs_arr, nI, condT, condF, Bool.not_true, Bool.not_false, Bool.and_true, Bool.true_and, Bool.and_false, Bool.false_and, Bool.or_true, Bool.true_or, Bool.or_false, Bool.false_or, beq_self_eq_true, dTT, dFF, dT, dF, bigI, big0, nilApp, wrapI, wrapU, List.length_set, List.length_replicate, Int.toNat_natCast, castS, castS2, imax, imin, c_impl_StartOf, c_impl_endOf, cond_and']
theorem m_impl_LeafAt (k : Nat) (hk : 2000000 ≤ k) (fu : List (Nat × Nat)) (z : Bool) (l : List Cell) (pos : Int) (hl : (l.length : Int) ≤ 1048576) : ∀ (n i : Nat), i ≤ l.length → l.length - i < n →
    lp (k + 6) slices_IndexFunc_impl_Id_impl_Id [] fu 2 (n) (s_slices_IndexFunc_impl_Id_impl_Id_at_impl_LeafAt_1_2 (l.length : Int) (i : Int) z l pos) = some [.int .i64 (leafGo pos l (l.length - i) i)]
  | 0, i, hi, hn => by omega
  | n + 1, i, hi, hn => by
    rw [l_slices_IndexFunc_impl_Id_impl_Id_at_impl_LeafAt_1_2]
    by_cases h : i < l.length
    · have e := m_impl_LeafAt k hk fu z l pos hl n (i + 1) (by omega) (by omega)
      rw [show l.length - i = (l.length - (i + 1)) + 1 by omega, leafGo]
      simp (disch := omega) only [bindS, nth0, nth1, nth2, nth3, bit, cell0, cell1, cell2, cell3, cell4, cell5, cell6, cell7, cell8, cell9, cell10, cell11, cell12, cell13, cell14, cell15, cell16, cell17, cell18, cell19, cell20, cell21, cell22, cell23, toInt_int, toBool_bool, toStr_str, nil_arr, r3_arr, r4_arr, ints_arr, bools_arr, strs_arr, nI, condT, condF, Bool.not_true, Bool.not_false, Bool.and_true, Bool.true_and, Bool.and_false, Bool.false_and, Bool.or_true, Bool.true_or, Bool.or_false, Bool.false_or, beq_self_eq_true, dTT, dFF, dT, dF, bigI, big0, nilApp, wrapI, wrapU, List.length_set, List.length_replicate, Int.toNat_natCast, castS, castS2, imax, imin, e, c_LeafAt_1, cst]
      cases (decide (startOf (l.getD i zz3).1 (l.getD i zz3).2.1 (l.getD i zz3).2.2 ≤ pos) && decide (pos < startOf (l.getD i zz3).1 (l.getD i zz3).2.1 (l.getD i zz3).2.2 + width (l.getD i zz3).2.1)) <;> rfl
    · simp (disch := omega) only [bindS, nth0, nth1, nth2, nth3, bit, cell0, cell1, cell2, cell3, cell4, cell5, cell6, cell7, cell8, cell9, cell10, cell11, cell12, cell13, cell14, cell15, cell16, cell17, cell18, cell19, cell20, cell21, cell22, cell23, toInt_int, toBool_bool, toStr_str, nil_arr, r3_arr, r4_arr, ints_arr, bools_arr, strs_arr, nI, condT, condF, Bool.not_true, Bool.not_false, Bool.and_true, Bool.true_and, Bool.and_false, Bool.false_and, Bool.or_true, Bool.true_or, Bool.or_false, Bool.false_or, beq_self_eq_true, dTT, dFF, dT, dF, bigI, big0, nilApp, wrapI, wrapU, List.length_set, List.length_replicate, Int.toNat_natCast, castS, castS2, imax, imin]
      rw [show l.length - i = 0 by omega]; rfl
theorem c_impl_LeafAt (k : Nat) (hk : 2000000 ≤ k) (a0 : Int) (a1z : Bool) (a1 : List (Int × Int × Int)) (b : Int) (hl : (a1.length : Int) ≤ 1048576) : go (k + 8) impl_LeafAt [(.agg [(.int .i64 (a0)), (.arr false (a1z) (.r3 (a1)))]), (.int .i64 (b))] = some [.int .i64 (leafAt a0 a1 b)] := by
  rw [e_impl_LeafAt]
  simp (disch := omega) only [bindS, nth0, nth1, nth2, nth3, bit, cell0, cell1, cell2, cell3, cell4, cell5, cell6, cell7, cell8, cell9, cell10, cell11, cell12, cell13, cell14, cell15, cell16, cell17, cell18, cell19, cell20, cell21, cell22, cell23, toInt_int, toBool_bool, toStr_str, nil_arr, r3_arr, r4_arr, ints_arr, bools_arr, strs_arr, nI, condT, condF, Bool.not_true, Bool.not_false, Bool.and_true, Bool.true_and, Bool.and_false, Bool.false_and, Bool.or_true, Bool.true_or, Bool.or_false, Bool.false_or, beq_self_eq_true, dTT, dFF, dT, dF, bigI, big0, nilApp, wrapI, wrapU, List.length_set, List.length_replicate, Int.toNat_natCast, castS, castS2, imax, imin, c_impl_MeshOk]
  unfold leafAt
  cases meshGo a0 0 a1
  · rfl
  rw [Bool.not_true, condF, e_slices_IndexFunc_impl_Id_impl_Id_at_impl_LeafAt_1]
  have e := m_impl_LeafAt k hk [] a1z a1 b hl (k + 6) 0 (by omega) (by omega)
  rw [show ((0 : Nat) : Int) = 0 from rfl] at e
  simp (disch := omega) only [bindS, nth0, nth1, nth2, nth3, bit, cell0, cell1, cell2, cell3, cell4, cell5, cell6, cell7, cell8, cell9, cell10, cell11, cell12, cell13, cell14, cell15, cell16, cell17, cell18, cell19, cell20, cell21, cell22, cell23, toInt_int, toBool_bool, toStr_str, nil_arr, r3_arr, r4_arr, ints_arr, bools_arr, strs_arr, nI, condT, condF, Bool.not_true, Bool.not_false, Bool.and_true, Bool.true_and, Bool.and_false, Bool.false_and, Bool.or_true, Bool.true_or, Bool.or_false, Bool.false_or, beq_self_eq_true, dTT, dFF, dT, dF, bigI, big0, nilApp, wrapI, wrapU, List.length_set, List.length_replicate, Int.toNat_natCast, castS, castS2, imax, imin, e]
  rfl
theorem m_spec_LeafAt (k : Nat) (hk : 2000000 ≤ k) (fu : List (Nat × Nat)) (z : Bool) (r : Int) (l : List Cell) (pos : Int) (hl : (l.length : Int) ≤ 1048576) (hm : meshGo r 0 l = true) : ∀ (n i : Nat), i ≤ l.length → l.length - i < n →
    lp (k + 5) spec_LeafAt [] fu 2 (n) (s_spec_LeafAt_2 pos (i : Int) z l r) = some [.int .i64 (leafGo pos l (l.length - i) i)]
  | 0, i, hi, hn => by omega
  | n + 1, i, hi, hn => by
    rw [l_spec_LeafAt_2]
    by_cases h : i < l.length
    · have e := m_spec_LeafAt k hk fu z r l pos hl hm n (i + 1) (by omega) (by omega)
      rw [show l.length - i = (l.length - (i + 1)) + 1 by omega, leafGo]
      simp (disch := omega) only [bindS, nth0, nth1, nth2, nth3, bit, cell0, cell1, cell2, cell3, cell4, cell5, cell6, cell7, cell8, cell9, cell10, cell11, cell12, cell13, cell14, cell15, cell16, cell17, cell18, cell19, cell20, cell21, cell22, cell23, toInt_int, toBool_bool, toStr_str, nil_arr, r3_arr, r4_arr, ints_arr, bools_arr, strs_arr, nI, condT, condF, Bool.not_true, Bool.not_false, Bool.and_true, Bool.true_and, Bool.and_false, Bool.false_and, Bool.or_true, Bool.true_or, Bool.or_false, Bool.false_or, beq_self_eq_true, dTT, dFF, dT, dF, bigI, big0, nilApp, wrapI, wrapU, List.length_set, List.length_replicate, Int.toNat_natCast, castS, castS2, imax, imin, e, c_spec_MeshOk, c_spec_StartOf, c_spec_l04End, hm, cst]
      cases decide (startOf (l.getD i zz3).1 (l.getD i zz3).2.1 (l.getD i zz3).2.2 ≤ pos) <;> cases decide (pos < startOf (l.getD i zz3).1 (l.getD i zz3).2.1 (l.getD i zz3).2.2 + width (l.getD i zz3).2.1) <;> rfl
    · simp (disch := omega) only [bindS, nth0, nth1, nth2, nth3, bit, cell0, cell1, cell2, cell3, cell4, cell5, cell6, cell7, cell8, cell9, cell10, cell11, cell12, cell13, cell14, cell15, cell16, cell17, cell18, cell19, cell20, cell21, cell22, cell23, toInt_int, toBool_bool, toStr_str, nil_arr, r3_arr, r4_arr, ints_arr, bools_arr, strs_arr, nI, condT, condF, Bool.not_true, Bool.not_false, Bool.and_true, Bool.true_and, Bool.and_false, Bool.false_and, Bool.or_true, Bool.true_or, Bool.or_false, Bool.false_or, beq_self_eq_true, dTT, dFF, dT, dF, bigI, big0, nilApp, wrapI, wrapU, List.length_set, List.length_replicate, Int.toNat_natCast, castS, castS2, imax, imin]
      rw [show l.length - i = 0 by omega]; rfl
theorem c_spec_LeafAt (k : Nat) (hk : 2000000 ≤ k) (a0 : Int) (a1z : Bool) (a1 : List (Int × Int × Int)) (b : Int) (hl : (a1.length : Int) ≤ 1048576) : go (k + 6) spec_LeafAt [(.agg [(.int .i64 (a0)), (.arr false (a1z) (.r3 (a1)))]), (.int .i64 (b))] = some [.int .i64 (leafAt a0 a1 b)] := by
  rw [e_spec_LeafAt]
  unfold leafAt
  cases hm : meshGo a0 0 a1
  · rw [show k + 5 = (k + 5 - 1) + 1 by omega]
    rw [show lp (k + 5 - 1 + 1) = lp (k + 5) by rw [show k + 5 - 1 + 1 = k + 5 by omega], l_spec_LeafAt_2]
    by_cases h0 : 0 < a1.length
    · simp (disch := omega) only [bindS, nth0, nth1, nth2, nth3, bit, cell0, cell1, cell2, cell3, cell4, cell5, cell6, cell7, cell8, cell9, cell10, cell11, cell12, cell13, cell14, cell15, cell16, cell17, cell18, cell19, cell20, cell21, cell22, cell23, toInt_int, toBool_bool, toStr_str, nil_arr, r3_arr, r4_arr, ints_arr, bools_arr, strs_arr, nI, condT, condF, Bool.not_true, Bool.not_false, Bool.and_true, Bool.true_and, Bool.and_false, Bool.false_and, Bool.or_true, Bool.true_or, Bool.or_false, Bool.false_or, beq_self_eq_true, dTT, dFF, dT, dF, bigI, big0, nilApp, wrapI, wrapU, List.length_set, List.length_replicate, Int.toNat_natCast, castS, castS2, imax, imin, c_spec_MeshOk, hm]
    · simp (disch := omega) only [bindS, nth0, nth1, nth2, nth3, bit, cell0, cell1, cell2, cell3, cell4, cell5, cell6, cell7, cell8, cell9, cell10, cell11, cell12, cell13, cell14, cell15, cell16, cell17, cell18, cell19, cell20, cell21, cell22, cell23, toInt_int, toBool_bool, toStr_str, nil_arr, r3_arr, r4_arr, ints_arr, bools_arr, strs_arr, nI, condT, condF, Bool.not_true, Bool.not_false, Bool.and_true, Bool.true_and, Bool.and_false, Bool.false_and, Bool.or_true, Bool.true_or, Bool.or_false, Bool.false_or, beq_self_eq_true, dTT, dFF, dT, dF, bigI, big0, nilApp, wrapI, wrapU, List.length_set, List.length_replicate, Int.toNat_natCast, castS, castS2, imax, imin]
  exact m_spec_LeafAt k hk [] a1z a0 a1 b hl hm _ 0 (by omega) (by omega)
def readG (r : Int) (l : List Cell) (m t b : List Int) (pos : Int) : Int := cond (stOk r l m t b) (cond (decide (0 ≤ leafAt r l pos)) (surf l m b (leafAt r l pos).toNat) 0) 0
end Go.Proofs.Ytfgccfajhedgdaa
