/- The laws' own helpers: marks of states, read again. -/
import Derived.Test.YtfgccfajhedgdaaPL2
namespace Go.Proofs.Ytfgccfajhedgdaa
open Go.Ev
set_option linter.unusedVariables false
set_option linter.unusedSimpArgs false
def marks3 (b : Int) : Nat → List Cell
  | 0 => []
  | n + 1 => (b, b + 1, b + 2) :: marks3 (b + 3) n
theorem marks3_length : ∀ (n : Nat) (b : Int), (marks3 b n).length = n
  | 0, b => rfl
  | n + 1, b => by simp [marks3, marks3_length n]
theorem marks3_getD : ∀ (n i : Nat) (b : Int), i < n → (marks3 b n).getD i zz3 = (b + 3 * i, b + 3 * i + 1, b + 3 * i + 2)
  | 0, i, b, h => by omega
  | n + 1, 0, b, h => by simp [marks3]
  | n + 1, i + 1, b, h => by
    have := marks3_getD n i (b + 3) (by omega)
    simp only [marks3, List.getD_cons_succ, this]
    rw [show b + 3 + 3 * (i : Int) = b + 3 * ((i + 1 : Nat) : Int) by omega]
theorem setset {α : Type} (l : List α) (i : Nat) (x y : α) : (l.set i x).set i y = l.set i y := List.set_set ..
theorem getset {α : Type} {l : List α} {i : Nat} (h : i < l.length) (x d : α) : (l.set i x).getD i d = x := by rw [set_getD]; simp [h]
theorem m_laws_markIdS' (k : Nat) (hk : 2000000 ≤ k) (fu : List (Nat × Nat)) (az : Bool) (a : List Cell) (z : Bool) (L : Nat) (hl : (L : Int) ≤ 1048576) : ∀ (n i : Nat) (l : List Cell) (b : Int), l.length = L → i ≤ L → 0 ≤ b → b ≤ 8796093022208 + 3 * i → L - i < n →
    lp k laws_markIdS [(.arr true (az) (.r3 (a)))] fu 2 (n) (s_laws_markIdS_2 b (i : Int) z l) = some [.int .i64 (b + 3 * (L - i : Nat)), .arr true z (.r3 (l.take i ++ marks3 b (L - i)))]
  | 0, i, l, b, hL, hi, h0, hb, hn => by omega
  | n + 1, i, l, b, hL, hi, h0, hb, hn => by
    rw [l_laws_markIdS_2]
    by_cases h : i < L
    · have e := m_laws_markIdS' k hk fu az a z L hl n (i + 1) (l.set i (b, b + 1, b + 2)) (b + 3) (by simp [hL]) (by omega) (by omega) (by omega) (by omega)
      rw [set_next l l i _ _ (by omega)] at e
      rw [show L - i = (L - (i + 1)) + 1 by omega]
      simp only [marks3]
      simp (disch := omega) only [bindS, nth0, nth1, nth2, nth3, bit, cell0, cell1, cell2, cell3, cell4, cell5, cell6, cell7, cell8, cell9, cell10, cell11, cell12, cell13, cell14, cell15, cell16, cell17, cell18, cell19, cell20, cell21, cell22, cell23, toInt_int, toBool_bool, toStr_str, nil_arr, r3_arr, r4_arr, ints_arr, bools_arr, strs_arr, nI, condT, condF, Bool.not_true, Bool.not_false, Bool.and_true, Bool.true_and, Bool.and_false, Bool.false_and, Bool.or_true, Bool.true_or, Bool.or_false, Bool.false_or, beq_self_eq_true, dTT, dFF, dT, dF, bigI, big0, nilApp, wrapI, wrapU, List.length_set, List.length_replicate, Int.toNat_natCast, castS, castS2, imax, imin, setset, getset, show b + 1 + 1 = b + 2 by omega, show b + 2 + 1 = b + 3 by omega]
      rw [e, show b + 3 + 3 * ((L - (i + 1) : Nat) : Int) = b + 3 * ((L - (i + 1) + 1 : Nat) : Int) by omega]
    · simp (disch := omega) only [bindS, nth0, nth1, nth2, nth3, bit, cell0, cell1, cell2, cell3, cell4, cell5, cell6, cell7, cell8, cell9, cell10, cell11, cell12, cell13, cell14, cell15, cell16, cell17, cell18, cell19, cell20, cell21, cell22, cell23, toInt_int, toBool_bool, toStr_str, nil_arr, r3_arr, r4_arr, ints_arr, bools_arr, strs_arr, nI, condT, condF, Bool.not_true, Bool.not_false, Bool.and_true, Bool.true_and, Bool.and_false, Bool.false_and, Bool.or_true, Bool.true_or, Bool.or_false, Bool.false_or, beq_self_eq_true, dTT, dFF, dT, dF, bigI, big0, nilApp, wrapI, wrapU, List.length_set, List.length_replicate, Int.toNat_natCast, castS, castS2, imax, imin]
      rw [show L - i = 0 by omega]
      simp only [marks3, List.append_nil]
      rw [List.take_of_length_le (by omega)]
      simp
theorem c_laws_markIdS' (k : Nat) (hk : 2000000 ≤ k) (az : Bool) (a : List (Int × Int × Int)) (b : Int) (hl : (a.length : Int) ≤ 1048576) (h0 : 0 ≤ b) (hb : b ≤ 8796093022208) : go (k + 1) laws_markIdS [(.arr true (az) (.r3 (a))), (.int .i64 (b))] = some [.int .i64 (b + 3 * a.length), .arr true az (.r3 (marks3 b a.length))] := by
  rw [e_laws_markIdS]
  have e := m_laws_markIdS' k hk [] az a az a.length hl (k + 0) 0 a b rfl (by omega) h0 (by omega) (by omega)
  simpa using e
theorem c_laws_markMesh' (k : Nat) (hk : 2000000 ≤ k) (a0 : Int) (a1z : Bool) (a1 : List (Int × Int × Int)) (b : Int) (hl : (a1.length : Int) ≤ 1048576) (h0 : 0 ≤ b) (hb : b ≤ 8796093022208) : go (k + 2) laws_markMesh [(.agg [(.int .i64 (a0)), (.arr true (a1z) (.r3 (a1)))]), (.int .i64 (b))] = some [.int .i64 (b + 3 * a1.length), .agg [.int .i64 a0, .arr true a1z (.r3 (marks3 b a1.length))]] := by
  rw [e_laws_markMesh]
  simp (disch := omega) only [bindS, nth0, nth1, nth2, nth3, bit, cell0, cell1, cell2, cell3, cell4, cell5, cell6, cell7, cell8, cell9, cell10, cell11, cell12, cell13, cell14, cell15, cell16, cell17, cell18, cell19, cell20, cell21, cell22, cell23, toInt_int, toBool_bool, toStr_str, nil_arr, r3_arr, r4_arr, ints_arr, bools_arr, strs_arr, nI, condT, condF, Bool.not_true, Bool.not_false, Bool.and_true, Bool.true_and, Bool.and_false, Bool.false_and, Bool.or_true, Bool.true_or, Bool.or_false, Bool.false_or, beq_self_eq_true, dTT, dFF, dT, dF, bigI, big0, nilApp, wrapI, wrapU, List.length_set, List.length_replicate, Int.toNat_natCast, castS, castS2, imax, imin, c_laws_markIdS']
theorem c_laws_markState' (k : Nat) (hk : 2000000 ≤ k) (a0 : Int) (a1z : Bool) (a1 : List (Int × Int × Int)) (a2z : Bool) (a2 : List Int) (a3z : Bool) (a3 : List Int) (a4z : Bool) (a4 : List Int) (b : Int) (h1 : (a1.length : Int) ≤ 1048576) (h2 : (a2.length : Int) ≤ 1048576) (h3 : (a3.length : Int) ≤ 1048576) (h4 : (a4.length : Int) ≤ 1048576) (h0 : 0 ≤ b) (hb : b ≤ 8700000000000) :
    go (k + 3) laws_markState [(.agg [(.int .i64 (a0)), (.arr true (a1z) (.r3 (a1))), (.arr true (a2z) (.ints .i64 (a2))), (.arr true (a3z) (.ints .i64 (a3))), (.arr true (a4z) (.ints .i64 (a4)))]), (.int .i64 (b))] = some [.int .i64 (b + 3 * a1.length + a2.length + a3.length + a4.length), .agg [.int .i64 a0, .arr true a1z (.r3 (marks3 b a1.length)), .arr true a2z (.ints .i64 (marks (b + 3 * a1.length) a2.length)), .arr true a3z (.ints .i64 (marks (b + 3 * a1.length + a2.length) a3.length)), .arr true a4z (.ints .i64 (marks (b + 3 * a1.length + a2.length + a3.length) a4.length))]] := by
  rw [e_laws_markState]
  simp (disch := omega) only [bindS, nth0, nth1, nth2, nth3, bit, cell0, cell1, cell2, cell3, cell4, cell5, cell6, cell7, cell8, cell9, cell10, cell11, cell12, cell13, cell14, cell15, cell16, cell17, cell18, cell19, cell20, cell21, cell22, cell23, toInt_int, toBool_bool, toStr_str, nil_arr, r3_arr, r4_arr, ints_arr, bools_arr, strs_arr, nI, condT, condF, Bool.not_true, Bool.not_false, Bool.and_true, Bool.true_and, Bool.and_false, Bool.false_and, Bool.or_true, Bool.true_or, Bool.or_false, Bool.false_or, beq_self_eq_true, dTT, dFF, dT, dF, bigI, big0, nilApp, wrapI, wrapU, List.length_set, List.length_replicate, Int.toNat_natCast, castS, castS2, imax, imin, c_laws_markMesh', c_laws_markIntS]
theorem m_laws_heldIdS (k : Nat) (hk : 2000000 ≤ k) (fu : List (Nat × Nat)) (z : Bool) (L : Nat) (b0 : Int) (hl : (L : Int) ≤ 1048576) (h0 : 0 ≤ b0) (hb : b0 ≤ 8796093022208) : ∀ (n i : Nat), i ≤ L → L - i < n →
    lp k laws_heldIdS [] fu 2 (n) (s_laws_heldIdS_2 (b0 + 3 * (i : Int)) (i : Int) z (marks3 b0 L)) = some [.int .i64 (b0 + 3 * L)]
  | 0, i, hi, hn => by omega
  | n + 1, i, hi, hn => by
    rw [l_laws_heldIdS_2]
    simp only [marks3_length]
    by_cases h : i < L
    · have e := m_laws_heldIdS k hk fu z L b0 hl h0 hb n (i + 1) (by omega) (by omega)
      rw [show b0 + 3 * ((i + 1 : Nat) : Int) = b0 + 3 * (i : Int) + 3 by omega] at e
      simp (disch := omega) only [bindS, nth0, nth1, nth2, nth3, bit, cell0, cell1, cell2, cell3, cell4, cell5, cell6, cell7, cell8, cell9, cell10, cell11, cell12, cell13, cell14, cell15, cell16, cell17, cell18, cell19, cell20, cell21, cell22, cell23, toInt_int, toBool_bool, toStr_str, nil_arr, r3_arr, r4_arr, ints_arr, bools_arr, strs_arr, nI, condT, condF, Bool.not_true, Bool.not_false, Bool.and_true, Bool.true_and, Bool.and_false, Bool.false_and, Bool.or_true, Bool.true_or, Bool.or_false, Bool.false_or, beq_self_eq_true, dTT, dFF, dT, dF, bigI, big0, nilApp, wrapI, wrapU, List.length_set, List.length_replicate, Int.toNat_natCast, castS, castS2, imax, imin, marks3_getD, show b0 + 3 * (i : Int) + 1 + 1 = b0 + 3 * (i : Int) + 2 by omega, show b0 + 3 * (i : Int) + 2 + 1 = b0 + 3 * (i : Int) + 3 by omega]
      exact e
    · simp (disch := omega) only [bindS, nth0, nth1, nth2, nth3, bit, cell0, cell1, cell2, cell3, cell4, cell5, cell6, cell7, cell8, cell9, cell10, cell11, cell12, cell13, cell14, cell15, cell16, cell17, cell18, cell19, cell20, cell21, cell22, cell23, toInt_int, toBool_bool, toStr_str, nil_arr, r3_arr, r4_arr, ints_arr, bools_arr, strs_arr, nI, condT, condF, Bool.not_true, Bool.not_false, Bool.and_true, Bool.true_and, Bool.and_false, Bool.false_and, Bool.or_true, Bool.true_or, Bool.or_false, Bool.false_or, beq_self_eq_true, dTT, dFF, dT, dF, bigI, big0, nilApp, wrapI, wrapU, List.length_set, List.length_replicate, Int.toNat_natCast, castS, castS2, imax, imin]
      rw [show i = L by omega]
theorem c_laws_heldIdS (k : Nat) (hk : 2000000 ≤ k) (z : Bool) (L : Nat) (b0 : Int) (hl : (L : Int) ≤ 1048576) (h0 : 0 ≤ b0) (hb : b0 ≤ 8796093022208) : go (k + 1) laws_heldIdS [.arr false z (.r3 (marks3 b0 L)), .int .i64 b0] = some [.int .i64 (b0 + 3 * L)] := by
  rw [e_laws_heldIdS]
  have e := m_laws_heldIdS k hk [] z L b0 hl h0 hb (k + 0) 0 (by omega) (by omega)
  simpa using e
theorem c_laws_heldMesh (k : Nat) (hk : 2000000 ≤ k) (r : Int) (z : Bool) (L : Nat) (b0 : Int) (hl : (L : Int) ≤ 1048576) (h0 : 0 ≤ b0) (hb : b0 ≤ 8796093022208) : go (k + 2) laws_heldMesh [.agg [.int .i64 r, .arr false z (.r3 (marks3 b0 L))], .int .i64 b0] = some [.int .i64 (b0 + 3 * L)] := by
  rw [e_laws_heldMesh]
  simp (disch := omega) only [bindS, nth0, nth1, nth2, nth3, bit, cell0, cell1, cell2, cell3, cell4, cell5, cell6, cell7, cell8, cell9, cell10, cell11, cell12, cell13, cell14, cell15, cell16, cell17, cell18, cell19, cell20, cell21, cell22, cell23, toInt_int, toBool_bool, toStr_str, nil_arr, r3_arr, r4_arr, ints_arr, bools_arr, strs_arr, nI, condT, condF, Bool.not_true, Bool.not_false, Bool.and_true, Bool.true_and, Bool.and_false, Bool.false_and, Bool.or_true, Bool.true_or, Bool.or_false, Bool.false_or, beq_self_eq_true, dTT, dFF, dT, dF, bigI, big0, nilApp, wrapI, wrapU, List.length_set, List.length_replicate, Int.toNat_natCast, castS, castS2, imax, imin, c_laws_heldIdS]
theorem c_laws_heldState (k : Nat) (hk : 2000000 ≤ k) (r : Int) (z1 z2 z3 z4 : Bool) (L1 L2 L3 L4 : Nat) (b : Int) (h1 : (L1 : Int) ≤ 1048576) (h2 : (L2 : Int) ≤ 1048576) (h3 : (L3 : Int) ≤ 1048576) (h4 : (L4 : Int) ≤ 1048576) (h0 : 0 ≤ b) (hb : b ≤ 8700000000000) :
    go (k + 3) laws_heldState [.agg [.int .i64 r, .arr false z1 (.r3 (marks3 b L1)), .arr false z2 (.ints .i64 (marks (b + 3 * L1) L2)), .arr false z3 (.ints .i64 (marks (b + 3 * L1 + L2) L3)), .arr false z4 (.ints .i64 (marks (b + 3 * L1 + L2 + L3) L4))], .int .i64 b] = some [.int .i64 (b + 3 * L1 + L2 + L3 + L4)] := by
  rw [e_laws_heldState]
  simp (disch := omega) only [bindS, nth0, nth1, nth2, nth3, bit, cell0, cell1, cell2, cell3, cell4, cell5, cell6, cell7, cell8, cell9, cell10, cell11, cell12, cell13, cell14, cell15, cell16, cell17, cell18, cell19, cell20, cell21, cell22, cell23, toInt_int, toBool_bool, toStr_str, nil_arr, r3_arr, r4_arr, ints_arr, bools_arr, strs_arr, nI, condT, condF, Bool.not_true, Bool.not_false, Bool.and_true, Bool.true_and, Bool.and_false, Bool.false_and, Bool.or_true, Bool.true_or, Bool.or_false, Bool.false_or, beq_self_eq_true, dTT, dFF, dT, dF, bigI, big0, nilApp, wrapI, wrapU, List.length_set, List.length_replicate, Int.toNat_natCast, castS, castS2, imax, imin, c_laws_heldMesh, c_laws_heldIntS]
end Go.Proofs.Ytfgccfajhedgdaa
