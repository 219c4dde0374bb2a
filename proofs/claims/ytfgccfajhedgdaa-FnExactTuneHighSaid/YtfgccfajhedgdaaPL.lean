/- The laws' own helpers: copies, comparisons, marks. -/
import Derived.Test.YtfgccfajhedgdaaXL
import Derived.Test.YtfgccfajhedgdaaPM
namespace Go.Proofs.Ytfgccfajhedgdaa
open Go.Ev
set_option linter.unusedVariables false
set_option linter.unusedSimpArgs false
theorem set_take {α : Type} (l o : List α) (i : Nat) (d : α) (h : i < l.length) (ho : o.length = l.length) : (o.set i (l.getD i d)).take (i + 1) ++ l.drop (i + 1) = o.take i ++ l.drop i := by
  rw [drop_at h d]
  have : (o.set i (l.getD i d)).take (i + 1) = o.take i ++ [l.getD i d] := by
    rw [List.take_succ_eq_append_getElem (by simp; omega)]
    simp [List.take_set_of_le]
  rw [this]; simp
theorem c_laws_toId (k : Nat) (hk : 2000000 ≤ k) (a0 : Int) (a1 : Int) (a2 : Int) : go (k + 1) laws_toId [(.agg [(.int .i64 (a0)), (.int .i64 (a1)), (.int .i64 (a2))])] = some [.agg [.int .i64 a0, .int .i64 a1, .int .i64 a2]] := by rw [e_laws_toId]
theorem m_laws_toIdS (k : Nat) (hk : 2000000 ≤ k) (fu : List (Nat × Nat)) (z z' : Bool) (l : List Cell) (hl : (l.length : Int) ≤ 1048576) : ∀ (n i : Nat) (o : List Cell), i ≤ l.length → o.length = l.length → l.length - i < n →
    lp (k + 1) laws_toIdS [] fu 3 (n) (s_laws_toIdS_3 (i : Int) z l z' o) = some [.arr true z' (.r3 (o.take i ++ l.drop i))]
  | 0, i, o, hi, ho, hn => by omega
  | n + 1, i, o, hi, ho, hn => by
    rw [l_laws_toIdS_3]
    by_cases h : i < l.length
    · simp (disch := omega) only [bindS, nth0, nth1, nth2, nth3, bit, cell0, cell1, cell2, cell3, cell4, cell5, cell6, cell7, cell8, cell9, cell10, cell11, cell12, cell13, cell14, cell15, cell16, cell17, cell18, cell19, cell20, cell21, cell22, cell23, toInt_int, toBool_bool, toStr_str, nil_arr, r3_arr, r4_arr, ints_arr, bools_arr, strs_arr, nI, condT, condF, Bool.not_true, Bool.not_false, Bool.and_true, Bool.true_and, Bool.and_false, Bool.false_and, Bool.or_true, Bool.true_or, Bool.or_false, Bool.false_or, beq_self_eq_true, dTT, dFF, dT, dF, bigI, big0, nilApp, wrapI, wrapU, List.length_set, List.length_replicate, Int.toNat_natCast, castS, castS2, imax, imin, c_laws_toId]
      rw [m_laws_toIdS k hk fu z z' l hl n (i + 1) _ (by omega) (by simp [ho]) (by omega)]
      exact congrArg (fun x => some [D.arr true z' (.r3 x)]) (set_take l o i zz3 h ho)
    · simp (disch := omega) only [bindS, nth0, nth1, nth2, nth3, bit, cell0, cell1, cell2, cell3, cell4, cell5, cell6, cell7, cell8, cell9, cell10, cell11, cell12, cell13, cell14, cell15, cell16, cell17, cell18, cell19, cell20, cell21, cell22, cell23, toInt_int, toBool_bool, toStr_str, nil_arr, r3_arr, r4_arr, ints_arr, bools_arr, strs_arr, nI, condT, condF, Bool.not_true, Bool.not_false, Bool.and_true, Bool.true_and, Bool.and_false, Bool.false_and, Bool.or_true, Bool.true_or, Bool.or_false, Bool.false_or, beq_self_eq_true, dTT, dFF, dT, dF, bigI, big0, nilApp, wrapI, wrapU, List.length_set, List.length_replicate, Int.toNat_natCast, castS, castS2, imax, imin]
      have hil : i = l.length := by omega
      rw [hil, List.drop_length, List.append_nil, List.take_of_length_le (by omega)]
theorem c_laws_toIdS (k : Nat) (hk : 2000000 ≤ k) (az : Bool) (a : List (Int × Int × Int)) (hl : (a.length : Int) ≤ 1048576) : go (k + 2) laws_toIdS [(.arr false (az) (.r3 (a)))] = some [.arr true false (.r3 a)] := by
  rw [e_laws_toIdS]
  simp (disch := omega) only [bindS, nth0, nth1, nth2, nth3, bit, cell0, cell1, cell2, cell3, cell4, cell5, cell6, cell7, cell8, cell9, cell10, cell11, cell12, cell13, cell14, cell15, cell16, cell17, cell18, cell19, cell20, cell21, cell22, cell23, toInt_int, toBool_bool, toStr_str, nil_arr, r3_arr, r4_arr, ints_arr, bools_arr, strs_arr, nI, condT, condF, Bool.not_true, Bool.not_false, Bool.and_true, Bool.true_and, Bool.and_false, Bool.false_and, Bool.or_true, Bool.true_or, Bool.or_false, Bool.false_or, beq_self_eq_true, dTT, dFF, dT, dF, bigI, big0, nilApp, wrapI, wrapU, List.length_set, List.length_replicate, Int.toNat_natCast, castS, castS2, imax, imin]
  refine Eq.trans (m_laws_toIdS k hk [] az false a hl _ 0 (List.replicate a.length zz3) (by omega) (by simp) (by omega)) ?_
  simp
theorem c_laws_toMesh (k : Nat) (hk : 2000000 ≤ k) (a0 : Int) (a1z : Bool) (a1 : List (Int × Int × Int)) (hl : (a1.length : Int) ≤ 1048576) : go (k + 3) laws_toMesh [(.agg [(.int .i64 (a0)), (.arr false (a1z) (.r3 (a1)))])] = some [.agg [.int .i64 a0, .arr true false (.r3 a1)]] := by
  rw [e_laws_toMesh]
  simp (disch := omega) only [bindS, nth0, nth1, nth2, nth3, bit, cell0, cell1, cell2, cell3, cell4, cell5, cell6, cell7, cell8, cell9, cell10, cell11, cell12, cell13, cell14, cell15, cell16, cell17, cell18, cell19, cell20, cell21, cell22, cell23, toInt_int, toBool_bool, toStr_str, nil_arr, r3_arr, r4_arr, ints_arr, bools_arr, strs_arr, nI, condT, condF, Bool.not_true, Bool.not_false, Bool.and_true, Bool.true_and, Bool.and_false, Bool.false_and, Bool.or_true, Bool.true_or, Bool.or_false, Bool.false_or, beq_self_eq_true, dTT, dFF, dT, dF, bigI, big0, nilApp, wrapI, wrapU, List.length_set, List.length_replicate, Int.toNat_natCast, castS, castS2, imax, imin, c_laws_toIdS]
theorem c_laws_szIdS (k : Nat) (hk : 2000000 ≤ k) (az : Bool) (a : List (Int × Int × Int)) (b : Int) (hl : (a.length : Int) ≤ 9223372036854775807) (hb : 0 ≤ b) (hb' : b ≤ 1048576) : go (k + 1) laws_szIdS [(.arr false (az) (.r3 (a))), (.int .i64 (b))] = some [.int .i64 (if (a.length : Int) ≤ b then b - a.length else -1)] := by
  rw [e_laws_szIdS]
  by_cases h : (a.length : Int) ≤ b
  · simp (disch := omega) only [bindS, nth0, nth1, nth2, nth3, bit, cell0, cell1, cell2, cell3, cell4, cell5, cell6, cell7, cell8, cell9, cell10, cell11, cell12, cell13, cell14, cell15, cell16, cell17, cell18, cell19, cell20, cell21, cell22, cell23, toInt_int, toBool_bool, toStr_str, nil_arr, r3_arr, r4_arr, ints_arr, bools_arr, strs_arr, nI, condT, condF, Bool.not_true, Bool.not_false, Bool.and_true, Bool.true_and, Bool.and_false, Bool.false_and, Bool.or_true, Bool.true_or, Bool.or_false, Bool.false_or, beq_self_eq_true, dTT, dFF, dT, dF, bigI, big0, nilApp, wrapI, wrapU, List.length_set, List.length_replicate, Int.toNat_natCast, castS, castS2, imax, imin, if_pos h]
  · simp (disch := omega) only [bindS, nth0, nth1, nth2, nth3, bit, cell0, cell1, cell2, cell3, cell4, cell5, cell6, cell7, cell8, cell9, cell10, cell11, cell12, cell13, cell14, cell15, cell16, cell17, cell18, cell19, cell20, cell21, cell22, cell23, toInt_int, toBool_bool, toStr_str, nil_arr, r3_arr, r4_arr, ints_arr, bools_arr, strs_arr, nI, condT, condF, Bool.not_true, Bool.not_false, Bool.and_true, Bool.true_and, Bool.and_false, Bool.false_and, Bool.or_true, Bool.true_or, Bool.or_false, Bool.false_or, beq_self_eq_true, dTT, dFF, dT, dF, bigI, big0, nilApp, wrapI, wrapU, List.length_set, List.length_replicate, Int.toNat_natCast, castS, castS2, imax, imin, if_neg h]
theorem c_laws_szMesh (k : Nat) (hk : 2000000 ≤ k) (a0 : Int) (a1z : Bool) (a1 : List (Int × Int × Int)) (b : Int) (hl : (a1.length : Int) ≤ 9223372036854775807) (hb : 0 ≤ b) (hb' : b ≤ 1048576) : go (k + 2) laws_szMesh [(.agg [(.int .i64 (a0)), (.arr false (a1z) (.r3 (a1)))]), (.int .i64 (b))] = some [.int .i64 (if (a1.length : Int) ≤ b then b - a1.length else -1)] := by
  rw [e_laws_szMesh]
  simp (disch := omega) only [bindS, nth0, nth1, nth2, nth3, bit, cell0, cell1, cell2, cell3, cell4, cell5, cell6, cell7, cell8, cell9, cell10, cell11, cell12, cell13, cell14, cell15, cell16, cell17, cell18, cell19, cell20, cell21, cell22, cell23, toInt_int, toBool_bool, toStr_str, nil_arr, r3_arr, r4_arr, ints_arr, bools_arr, strs_arr, nI, condT, condF, Bool.not_true, Bool.not_false, Bool.and_true, Bool.true_and, Bool.and_false, Bool.false_and, Bool.or_true, Bool.true_or, Bool.or_false, Bool.false_or, beq_self_eq_true, dTT, dFF, dT, dF, bigI, big0, nilApp, wrapI, wrapU, List.length_set, List.length_replicate, Int.toNat_natCast, castS, castS2, imax, imin, c_laws_szIdS]
  by_cases h : (a1.length : Int) ≤ b
  · simp (disch := omega) only [bindS, nth0, nth1, nth2, nth3, bit, cell0, cell1, cell2, cell3, cell4, cell5, cell6, cell7, cell8, cell9, cell10, cell11, cell12, cell13, cell14, cell15, cell16, cell17, cell18, cell19, cell20, cell21, cell22, cell23, toInt_int, toBool_bool, toStr_str, nil_arr, r3_arr, r4_arr, ints_arr, bools_arr, strs_arr, nI, condT, condF, Bool.not_true, Bool.not_false, Bool.and_true, Bool.true_and, Bool.and_false, Bool.false_and, Bool.or_true, Bool.true_or, Bool.or_false, Bool.false_or, beq_self_eq_true, dTT, dFF, dT, dF, bigI, big0, nilApp, wrapI, wrapU, List.length_set, List.length_replicate, Int.toNat_natCast, castS, castS2, imax, imin, if_pos h]
  · simp (disch := omega) only [bindS, nth0, nth1, nth2, nth3, bit, cell0, cell1, cell2, cell3, cell4, cell5, cell6, cell7, cell8, cell9, cell10, cell11, cell12, cell13, cell14, cell15, cell16, cell17, cell18, cell19, cell20, cell21, cell22, cell23, toInt_int, toBool_bool, toStr_str, nil_arr, r3_arr, r4_arr, ints_arr, bools_arr, strs_arr, nI, condT, condF, Bool.not_true, Bool.not_false, Bool.and_true, Bool.true_and, Bool.and_false, Bool.false_and, Bool.or_true, Bool.true_or, Bool.or_false, Bool.false_or, beq_self_eq_true, dTT, dFF, dT, dF, bigI, big0, nilApp, wrapI, wrapU, List.length_set, List.length_replicate, Int.toNat_natCast, castS, castS2, imax, imin, if_neg h]
theorem c_laws_eqId (k : Nat) (hk : 2000000 ≤ k) (a b c : Int) : go (k + 1) laws_eqId [.agg [.int .i64 a, .int .i64 b, .int .i64 c], .agg [.int .i64 a, .int .i64 b, .int .i64 c]] = some [.bool true] := by
  rw [e_laws_eqId]; simp
theorem m_laws_eqIdS (k : Nat) (hk : 2000000 ≤ k) (fu : List (Nat × Nat)) (z z' : Bool) (l : List Cell) (hl : (l.length : Int) ≤ 1048576) : ∀ (n i : Nat), i ≤ l.length → l.length - i < n →
    lp (k + 1) laws_eqIdS [] fu 4 (n) (s_laws_eqIdS_4 (i : Int) z l z' l) = some [.bool true]
  | 0, i, hi, hn => by omega
  | n + 1, i, hi, hn => by
    rw [l_laws_eqIdS_4]
    by_cases h : i < l.length
    · simp (disch := omega) only [bindS, nth0, nth1, nth2, nth3, bit, cell0, cell1, cell2, cell3, cell4, cell5, cell6, cell7, cell8, cell9, cell10, cell11, cell12, cell13, cell14, cell15, cell16, cell17, cell18, cell19, cell20, cell21, cell22, cell23, toInt_int, toBool_bool, toStr_str, nil_arr, r3_arr, r4_arr, ints_arr, bools_arr, strs_arr, nI, condT, condF, Bool.not_true, Bool.not_false, Bool.and_true, Bool.true_and, Bool.and_false, Bool.false_and, Bool.or_true, Bool.true_or, Bool.or_false, Bool.false_or, beq_self_eq_true, dTT, dFF, dT, dF, bigI, big0, nilApp, wrapI, wrapU, List.length_set, List.length_replicate, Int.toNat_natCast, castS, castS2, imax, imin, c_laws_eqId]
      exact m_laws_eqIdS k hk fu z z' l hl n (i + 1) (by omega) (by omega)
    · simp (disch := omega) only [bindS, nth0, nth1, nth2, nth3, bit, cell0, cell1, cell2, cell3, cell4, cell5, cell6, cell7, cell8, cell9, cell10, cell11, cell12, cell13, cell14, cell15, cell16, cell17, cell18, cell19, cell20, cell21, cell22, cell23, toInt_int, toBool_bool, toStr_str, nil_arr, r3_arr, r4_arr, ints_arr, bools_arr, strs_arr, nI, condT, condF, Bool.not_true, Bool.not_false, Bool.and_true, Bool.true_and, Bool.and_false, Bool.false_and, Bool.or_true, Bool.true_or, Bool.or_false, Bool.false_or, beq_self_eq_true, dTT, dFF, dT, dF, bigI, big0, nilApp, wrapI, wrapU, List.length_set, List.length_replicate, Int.toNat_natCast, castS, castS2, imax, imin]
theorem c_laws_eqIdS (k : Nat) (hk : 2000000 ≤ k) (z z' : Bool) (l : List Cell) (hl : (l.length : Int) ≤ 1048576) : go (k + 2) laws_eqIdS [.arr false z (.r3 l), .arr false z' (.r3 l)] = some [.bool true] := by
  rw [e_laws_eqIdS]
  simp (disch := omega) only [bindS, nth0, nth1, nth2, nth3, bit, cell0, cell1, cell2, cell3, cell4, cell5, cell6, cell7, cell8, cell9, cell10, cell11, cell12, cell13, cell14, cell15, cell16, cell17, cell18, cell19, cell20, cell21, cell22, cell23, toInt_int, toBool_bool, toStr_str, nil_arr, r3_arr, r4_arr, ints_arr, bools_arr, strs_arr, nI, condT, condF, Bool.not_true, Bool.not_false, Bool.and_true, Bool.true_and, Bool.and_false, Bool.false_and, Bool.or_true, Bool.true_or, Bool.or_false, Bool.false_or, beq_self_eq_true, dTT, dFF, dT, dF, bigI, big0, nilApp, wrapI, wrapU, List.length_set, List.length_replicate, Int.toNat_natCast, castS, castS2, imax, imin]
  exact m_laws_eqIdS k hk [] z z' l hl _ 0 (by omega) (by omega)
theorem c_laws_eqMesh (k : Nat) (hk : 2000000 ≤ k) (roots : Int) (z z' : Bool) (l : List Cell) (hl : (l.length : Int) ≤ 1048576) : go (k + 3) laws_eqMesh [.agg [.int .i64 roots, .arr false z (.r3 l)], .agg [.int .i64 roots, .arr false z' (.r3 l)]] = some [.bool true] := by
  rw [e_laws_eqMesh]
  simp (disch := omega) only [bindS, nth0, nth1, nth2, nth3, bit, cell0, cell1, cell2, cell3, cell4, cell5, cell6, cell7, cell8, cell9, cell10, cell11, cell12, cell13, cell14, cell15, cell16, cell17, cell18, cell19, cell20, cell21, cell22, cell23, toInt_int, toBool_bool, toStr_str, nil_arr, r3_arr, r4_arr, ints_arr, bools_arr, strs_arr, nI, condT, condF, Bool.not_true, Bool.not_false, Bool.and_true, Bool.true_and, Bool.and_false, Bool.false_and, Bool.or_true, Bool.true_or, Bool.or_false, Bool.false_or, beq_self_eq_true, dTT, dFF, dT, dF, bigI, big0, nilApp, wrapI, wrapU, List.length_set, List.length_replicate, Int.toNat_natCast, castS, castS2, imax, imin, c_laws_eqIdS]
theorem m_laws_toIntS (k : Nat) (hk : 2000000 ≤ k) (fu : List (Nat × Nat)) (z z' : Bool) (l : List Int) (hl : (l.length : Int) ≤ 1048576) : ∀ (n i : Nat) (o : List Int), i ≤ l.length → o.length = l.length → l.length - i < n →
    lp k laws_toIntS [] fu 3 (n) (s_laws_toIntS_3 (i : Int) z l z' o) = some [.arr true z' (.ints .i64 (o.take i ++ l.drop i))]
  | 0, i, o, hi, ho, hn => by omega
  | n + 1, i, o, hi, ho, hn => by
    rw [l_laws_toIntS_3]
    by_cases h : i < l.length
    · simp (disch := omega) only [bindS, nth0, nth1, nth2, nth3, bit, cell0, cell1, cell2, cell3, cell4, cell5, cell6, cell7, cell8, cell9, cell10, cell11, cell12, cell13, cell14, cell15, cell16, cell17, cell18, cell19, cell20, cell21, cell22, cell23, toInt_int, toBool_bool, toStr_str, nil_arr, r3_arr, r4_arr, ints_arr, bools_arr, strs_arr, nI, condT, condF, Bool.not_true, Bool.not_false, Bool.and_true, Bool.true_and, Bool.and_false, Bool.false_and, Bool.or_true, Bool.true_or, Bool.or_false, Bool.false_or, beq_self_eq_true, dTT, dFF, dT, dF, bigI, big0, nilApp, wrapI, wrapU, List.length_set, List.length_replicate, Int.toNat_natCast, castS, castS2, imax, imin]
      rw [m_laws_toIntS k hk fu z z' l hl n (i + 1) _ (by omega) (by simp [ho]) (by omega)]
      exact congrArg (fun x => some [D.arr true z' (.ints .i64 x)]) (set_take l o i 0 h ho)
    · simp (disch := omega) only [bindS, nth0, nth1, nth2, nth3, bit, cell0, cell1, cell2, cell3, cell4, cell5, cell6, cell7, cell8, cell9, cell10, cell11, cell12, cell13, cell14, cell15, cell16, cell17, cell18, cell19, cell20, cell21, cell22, cell23, toInt_int, toBool_bool, toStr_str, nil_arr, r3_arr, r4_arr, ints_arr, bools_arr, strs_arr, nI, condT, condF, Bool.not_true, Bool.not_false, Bool.and_true, Bool.true_and, Bool.and_false, Bool.false_and, Bool.or_true, Bool.true_or, Bool.or_false, Bool.false_or, beq_self_eq_true, dTT, dFF, dT, dF, bigI, big0, nilApp, wrapI, wrapU, List.length_set, List.length_replicate, Int.toNat_natCast, castS, castS2, imax, imin]
      have hil : i = l.length := by omega
      rw [hil, List.drop_length, List.append_nil, List.take_of_length_le (by omega)]
theorem c_laws_toIntS (k : Nat) (hk : 2000000 ≤ k) (az : Bool) (a : List Int) (hl : (a.length : Int) ≤ 1048576) : go (k + 1) laws_toIntS [(.arr false (az) (.ints .i64 (a)))] = some [.arr true false (.ints .i64 a)] := by
  rw [e_laws_toIntS]
  simp (disch := omega) only [bindS, nth0, nth1, nth2, nth3, bit, cell0, cell1, cell2, cell3, cell4, cell5, cell6, cell7, cell8, cell9, cell10, cell11, cell12, cell13, cell14, cell15, cell16, cell17, cell18, cell19, cell20, cell21, cell22, cell23, toInt_int, toBool_bool, toStr_str, nil_arr, r3_arr, r4_arr, ints_arr, bools_arr, strs_arr, nI, condT, condF, Bool.not_true, Bool.not_false, Bool.and_true, Bool.true_and, Bool.and_false, Bool.false_and, Bool.or_true, Bool.true_or, Bool.or_false, Bool.false_or, beq_self_eq_true, dTT, dFF, dT, dF, bigI, big0, nilApp, wrapI, wrapU, List.length_set, List.length_replicate, Int.toNat_natCast, castS, castS2, imax, imin]
  refine Eq.trans (m_laws_toIntS k hk [] az false a hl _ 0 (List.replicate a.length 0) (by omega) (by simp) (by omega)) ?_
  simp
theorem c_laws_szIntS (k : Nat) (hk : 2000000 ≤ k) (az : Bool) (a : List Int) (b : Int) (hl : (a.length : Int) ≤ 9223372036854775807) (hb : 0 ≤ b) (hb' : b ≤ 1048576) : go (k + 1) laws_szIntS [(.arr false (az) (.ints .i64 (a))), (.int .i64 (b))] = some [.int .i64 (if (a.length : Int) ≤ b then b - a.length else -1)] := by
  rw [e_laws_szIntS]
  by_cases h : (a.length : Int) ≤ b
  · simp (disch := omega) only [bindS, nth0, nth1, nth2, nth3, bit, cell0, cell1, cell2, cell3, cell4, cell5, cell6, cell7, cell8, cell9, cell10, cell11, cell12, cell13, cell14, cell15, cell16, cell17, cell18, cell19, cell20, cell21, cell22, cell23, toInt_int, toBool_bool, toStr_str, nil_arr, r3_arr, r4_arr, ints_arr, bools_arr, strs_arr, nI, condT, condF, Bool.not_true, Bool.not_false, Bool.and_true, Bool.true_and, Bool.and_false, Bool.false_and, Bool.or_true, Bool.true_or, Bool.or_false, Bool.false_or, beq_self_eq_true, dTT, dFF, dT, dF, bigI, big0, nilApp, wrapI, wrapU, List.length_set, List.length_replicate, Int.toNat_natCast, castS, castS2, imax, imin, if_pos h]
  · simp (disch := omega) only [bindS, nth0, nth1, nth2, nth3, bit, cell0, cell1, cell2, cell3, cell4, cell5, cell6, cell7, cell8, cell9, cell10, cell11, cell12, cell13, cell14, cell15, cell16, cell17, cell18, cell19, cell20, cell21, cell22, cell23, toInt_int, toBool_bool, toStr_str, nil_arr, r3_arr, r4_arr, ints_arr, bools_arr, strs_arr, nI, condT, condF, Bool.not_true, Bool.not_false, Bool.and_true, Bool.true_and, Bool.and_false, Bool.false_and, Bool.or_true, Bool.true_or, Bool.or_false, Bool.false_or, beq_self_eq_true, dTT, dFF, dT, dF, bigI, big0, nilApp, wrapI, wrapU, List.length_set, List.length_replicate, Int.toNat_natCast, castS, castS2, imax, imin, if_neg h]
theorem m_laws_eqIntS (k : Nat) (hk : 2000000 ≤ k) (fu : List (Nat × Nat)) (z z' : Bool) (l : List Int) (hl : (l.length : Int) ≤ 1048576) : ∀ (n i : Nat), i ≤ l.length → l.length - i < n →
    lp k laws_eqIntS [] fu 4 (n) (s_laws_eqIntS_4 (i : Int) z l z' l) = some [.bool true]
  | 0, i, hi, hn => by omega
  | n + 1, i, hi, hn => by
    rw [l_laws_eqIntS_4]
    by_cases h : i < l.length
    · simp (disch := omega) only [bindS, nth0, nth1, nth2, nth3, bit, cell0, cell1, cell2, cell3, cell4, cell5, cell6, cell7, cell8, cell9, cell10, cell11, cell12, cell13, cell14, cell15, cell16, cell17, cell18, cell19, cell20, cell21, cell22, cell23, toInt_int, toBool_bool, toStr_str, nil_arr, r3_arr, r4_arr, ints_arr, bools_arr, strs_arr, nI, condT, condF, Bool.not_true, Bool.not_false, Bool.and_true, Bool.true_and, Bool.and_false, Bool.false_and, Bool.or_true, Bool.true_or, Bool.or_false, Bool.false_or, beq_self_eq_true, dTT, dFF, dT, dF, bigI, big0, nilApp, wrapI, wrapU, List.length_set, List.length_replicate, Int.toNat_natCast, castS, castS2, imax, imin]
      exact m_laws_eqIntS k hk fu z z' l hl n (i + 1) (by omega) (by omega)
    · simp (disch := omega) only [bindS, nth0, nth1, nth2, nth3, bit, cell0, cell1, cell2, cell3, cell4, cell5, cell6, cell7, cell8, cell9, cell10, cell11, cell12, cell13, cell14, cell15, cell16, cell17, cell18, cell19, cell20, cell21, cell22, cell23, toInt_int, toBool_bool, toStr_str, nil_arr, r3_arr, r4_arr, ints_arr, bools_arr, strs_arr, nI, condT, condF, Bool.not_true, Bool.not_false, Bool.and_true, Bool.true_and, Bool.and_false, Bool.false_and, Bool.or_true, Bool.true_or, Bool.or_false, Bool.false_or, beq_self_eq_true, dTT, dFF, dT, dF, bigI, big0, nilApp, wrapI, wrapU, List.length_set, List.length_replicate, Int.toNat_natCast, castS, castS2, imax, imin]
theorem c_laws_eqIntS (k : Nat) (hk : 2000000 ≤ k) (z z' : Bool) (l : List Int) (hl : (l.length : Int) ≤ 1048576) : go (k + 1) laws_eqIntS [.arr false z (.ints .i64 l), .arr false z' (.ints .i64 l)] = some [.bool true] := by
  rw [e_laws_eqIntS]
  simp (disch := omega) only [bindS, nth0, nth1, nth2, nth3, bit, cell0, cell1, cell2, cell3, cell4, cell5, cell6, cell7, cell8, cell9, cell10, cell11, cell12, cell13, cell14, cell15, cell16, cell17, cell18, cell19, cell20, cell21, cell22, cell23, toInt_int, toBool_bool, toStr_str, nil_arr, r3_arr, r4_arr, ints_arr, bools_arr, strs_arr, nI, condT, condF, Bool.not_true, Bool.not_false, Bool.and_true, Bool.true_and, Bool.and_false, Bool.false_and, Bool.or_true, Bool.true_or, Bool.or_false, Bool.false_or, beq_self_eq_true, dTT, dFF, dT, dF, bigI, big0, nilApp, wrapI, wrapU, List.length_set, List.length_replicate, Int.toNat_natCast, castS, castS2, imax, imin]
  exact m_laws_eqIntS k hk [] z z' l hl _ 0 (by omega) (by omega)
theorem m_laws_markIdS (k : Nat) (hk : 2000000 ≤ k) (fu : List (Nat × Nat)) (az : Bool) (a : List Cell) (z : Bool) (L : Nat) (hl : (L : Int) ≤ 1048576) : ∀ (n i : Nat) (l : List Cell) (b : Int), l.length = L → i ≤ L → 0 ≤ b → b ≤ 8796093022208 + 3 * i → L - i < n →
    ∃ l', lp k laws_markIdS [(.arr true (az) (.r3 (a)))] fu 2 (n) (s_laws_markIdS_2 b (i : Int) z l) = some [.int .i64 (b + 3 * (L - i : Nat)), .arr true z (.r3 l')]
  | 0, i, l, b, hL, hi, h0, hb, hn => by omega
  | n + 1, i, l, b, hL, hi, h0, hb, hn => by
    rw [l_laws_markIdS_2]
    by_cases h : i < L
    · simp (disch := omega) only [bindS, nth0, nth1, nth2, nth3, bit, cell0, cell1, cell2, cell3, cell4, cell5, cell6, cell7, cell8, cell9, cell10, cell11, cell12, cell13, cell14, cell15, cell16, cell17, cell18, cell19, cell20, cell21, cell22, cell23, toInt_int, toBool_bool, toStr_str, nil_arr, r3_arr, r4_arr, ints_arr, bools_arr, strs_arr, nI, condT, condF, Bool.not_true, Bool.not_false, Bool.and_true, Bool.true_and, Bool.and_false, Bool.false_and, Bool.or_true, Bool.true_or, Bool.or_false, Bool.false_or, beq_self_eq_true, dTT, dFF, dT, dF, bigI, big0, nilApp, wrapI, wrapU, List.length_set, List.length_replicate, Int.toNat_natCast, castS, castS2, imax, imin]
      obtain ⟨l', e⟩ := m_laws_markIdS k hk fu az a z L hl n (i + 1) (List.set (List.set (List.set l i (b, Prod.fst (Prod.snd (List.getD l i zz3)), Prod.snd (Prod.snd (List.getD l i zz3)))) i (Prod.fst (List.getD (List.set l i (b, Prod.fst (Prod.snd (List.getD l i zz3)), Prod.snd (Prod.snd (List.getD l i zz3)))) i zz3), b + 1, Prod.snd (Prod.snd (List.getD (List.set l i (b, Prod.fst (Prod.snd (List.getD l i zz3)), Prod.snd (Prod.snd (List.getD l i zz3)))) i zz3)))) i (Prod.fst (List.getD (List.set (List.set l i (b, Prod.fst (Prod.snd (List.getD l i zz3)), Prod.snd (Prod.snd (List.getD l i zz3)))) i (Prod.fst (List.getD (List.set l i (b, Prod.fst (Prod.snd (List.getD l i zz3)), Prod.snd (Prod.snd (List.getD l i zz3)))) i zz3), b + 1, Prod.snd (Prod.snd (List.getD (List.set l i (b, Prod.fst (Prod.snd (List.getD l i zz3)), Prod.snd (Prod.snd (List.getD l i zz3)))) i zz3)))) i zz3), Prod.fst (Prod.snd (List.getD (List.set (List.set l i (b, Prod.fst (Prod.snd (List.getD l i zz3)), Prod.snd (Prod.snd (List.getD l i zz3)))) i (Prod.fst (List.getD (List.set l i (b, Prod.fst (Prod.snd (List.getD l i zz3)), Prod.snd (Prod.snd (List.getD l i zz3)))) i zz3), b + 1, Prod.snd (Prod.snd (List.getD (List.set l i (b, Prod.fst (Prod.snd (List.getD l i zz3)), Prod.snd (Prod.snd (List.getD l i zz3)))) i zz3)))) i zz3)), b + 1 + 1)) (b + 1 + 1 + 1) (by simp [hL]) (by omega) (by omega) (by omega) (by omega)
      rw [e]
      exact ⟨l', by rw [show b + 1 + 1 + 1 + 3 * ((L - (i + 1) : Nat) : Int) = b + 3 * ((L - i : Nat) : Int) by omega]⟩
    · simp (disch := omega) only [bindS, nth0, nth1, nth2, nth3, bit, cell0, cell1, cell2, cell3, cell4, cell5, cell6, cell7, cell8, cell9, cell10, cell11, cell12, cell13, cell14, cell15, cell16, cell17, cell18, cell19, cell20, cell21, cell22, cell23, toInt_int, toBool_bool, toStr_str, nil_arr, r3_arr, r4_arr, ints_arr, bools_arr, strs_arr, nI, condT, condF, Bool.not_true, Bool.not_false, Bool.and_true, Bool.true_and, Bool.and_false, Bool.false_and, Bool.or_true, Bool.true_or, Bool.or_false, Bool.false_or, beq_self_eq_true, dTT, dFF, dT, dF, bigI, big0, nilApp, wrapI, wrapU, List.length_set, List.length_replicate, Int.toNat_natCast, castS, castS2, imax, imin]
      exact ⟨l, by rw [show b + 3 * ((L - i : Nat) : Int) = b by omega]⟩
theorem c_laws_markIdS (k : Nat) (hk : 2000000 ≤ k) (az : Bool) (a : List (Int × Int × Int)) (b : Int) (hl : (a.length : Int) ≤ 1048576) (h0 : 0 ≤ b) (hb : b ≤ 8796093022208) : ∃ l', go (k + 1) laws_markIdS [(.arr true (az) (.r3 (a))), (.int .i64 (b))] = some [.int .i64 (b + 3 * a.length), .arr true az (.r3 l')] := by
  rw [e_laws_markIdS]
  obtain ⟨l', e⟩ := m_laws_markIdS k hk [] az a az a.length hl k 0 a b rfl (by omega) h0 (by omega) (by omega)
  exact m_laws_markIdS k hk [] az a az a.length hl _ 0 a b rfl (by omega) h0 (by omega) (by omega)
theorem c_laws_markMesh (k : Nat) (hk : 2000000 ≤ k) (a0 : Int) (a1z : Bool) (a1 : List (Int × Int × Int)) (b : Int) (hl : (a1.length : Int) ≤ 1048576) (h0 : 0 ≤ b) (hb : b ≤ 8796093022208) : ∃ l', go (k + 2) laws_markMesh [(.agg [(.int .i64 (a0)), (.arr true (a1z) (.r3 (a1)))]), (.int .i64 (b))] = some [.int .i64 (b + 3 * a1.length), .agg [.int .i64 a0, .arr true a1z (.r3 l')]] := by
  rw [e_laws_markMesh]
  obtain ⟨l', e⟩ := c_laws_markIdS k hk a1z a1 b hl h0 hb
  rw [e]
  exact ⟨l', by simp (disch := omega) only [bindS, nth0, nth1, nth2, nth3, bit, cell0, cell1, cell2, cell3, cell4, cell5, cell6, cell7, cell8, cell9, cell10, cell11, cell12, cell13, cell14, cell15, cell16, cell17, cell18, cell19, cell20, cell21, cell22, cell23, toInt_int, toBool_bool, toStr_str, nil_arr, r3_arr, r4_arr, ints_arr, bools_arr, strs_arr, nI, condT, condF, Bool.not_true, Bool.not_false, Bool.and_true, Bool.true_and, Bool.and_false, Bool.false_and, Bool.or_true, Bool.true_or, Bool.or_false, Bool.false_or, beq_self_eq_true, dTT, dFF, dT, dF, bigI, big0, nilApp, wrapI, wrapU, List.length_set, List.length_replicate, Int.toNat_natCast, castS, castS2, imax, imin]⟩
def marks (b : Int) : Nat → List Int
  | 0 => []
  | n + 1 => b :: marks (b + 1) n
theorem marks_length : ∀ (n : Nat) (b : Int), (marks b n).length = n
  | 0, b => rfl
  | n + 1, b => by simp [marks, marks_length n]
theorem marks_getD : ∀ (n i : Nat) (b : Int), i < n → (marks b n).getD i 0 = b + i
  | 0, i, b, h => by omega
  | n + 1, 0, b, h => by simp [marks]
  | n + 1, i + 1, b, h => by
    have := marks_getD n i (b + 1) (by omega)
    simp only [marks, List.getD_cons_succ, this]; omega
theorem m_laws_markIntS (k : Nat) (hk : 2000000 ≤ k) (fu : List (Nat × Nat)) (az : Bool) (a : List Int) (z : Bool) (L : Nat) (hl : (L : Int) ≤ 1048576) : ∀ (n i : Nat) (l : List Int) (b : Int), l.length = L → i ≤ L → 0 ≤ b → b ≤ 8796093022208 + i → L - i < n →
    lp k laws_markIntS [(.arr true (az) (.ints .i64 (a)))] fu 2 (n) (s_laws_markIntS_2 b (i : Int) z l) = some [.int .i64 (b + (L - i : Nat)), .arr true z (.ints .i64 (l.take i ++ marks b (L - i)))]
  | 0, i, l, b, hL, hi, h0, hb, hn => by omega
  | n + 1, i, l, b, hL, hi, h0, hb, hn => by
    rw [l_laws_markIntS_2]
    by_cases h : i < L
    · simp (disch := omega) only [bindS, nth0, nth1, nth2, nth3, bit, cell0, cell1, cell2, cell3, cell4, cell5, cell6, cell7, cell8, cell9, cell10, cell11, cell12, cell13, cell14, cell15, cell16, cell17, cell18, cell19, cell20, cell21, cell22, cell23, toInt_int, toBool_bool, toStr_str, nil_arr, r3_arr, r4_arr, ints_arr, bools_arr, strs_arr, nI, condT, condF, Bool.not_true, Bool.not_false, Bool.and_true, Bool.true_and, Bool.and_false, Bool.false_and, Bool.or_true, Bool.true_or, Bool.or_false, Bool.false_or, beq_self_eq_true, dTT, dFF, dT, dF, bigI, big0, nilApp, wrapI, wrapU, List.length_set, List.length_replicate, Int.toNat_natCast, castS, castS2, imax, imin]
      rw [m_laws_markIntS k hk fu az a z L hl n (i + 1) (l.set i b) (b + 1) (by simp [hL]) (by omega) (by omega) (by omega) (by omega)]
      rw [set_next l l i b _ (by omega), show L - i = (L - (i + 1)) + 1 by omega]
      simp only [marks]
      rw [show b + 1 + ((L - (i + 1) : Nat) : Int) = b + ((L - (i + 1) + 1 : Nat) : Int) by omega]
    · simp (disch := omega) only [bindS, nth0, nth1, nth2, nth3, bit, cell0, cell1, cell2, cell3, cell4, cell5, cell6, cell7, cell8, cell9, cell10, cell11, cell12, cell13, cell14, cell15, cell16, cell17, cell18, cell19, cell20, cell21, cell22, cell23, toInt_int, toBool_bool, toStr_str, nil_arr, r3_arr, r4_arr, ints_arr, bools_arr, strs_arr, nI, condT, condF, Bool.not_true, Bool.not_false, Bool.and_true, Bool.true_and, Bool.and_false, Bool.false_and, Bool.or_true, Bool.true_or, Bool.or_false, Bool.false_or, beq_self_eq_true, dTT, dFF, dT, dF, bigI, big0, nilApp, wrapI, wrapU, List.length_set, List.length_replicate, Int.toNat_natCast, castS, castS2, imax, imin]
      rw [show L - i = 0 by omega]
      simp only [marks, List.append_nil]
      rw [List.take_of_length_le (by omega)]
      simp
theorem c_laws_markIntS (k : Nat) (hk : 2000000 ≤ k) (az : Bool) (a : List Int) (b : Int) (hl : (a.length : Int) ≤ 1048576) (h0 : 0 ≤ b) (hb : b ≤ 8796093022208) : go (k + 1) laws_markIntS [(.arr true (az) (.ints .i64 (a))), (.int .i64 (b))] = some [.int .i64 (b + a.length), .arr true az (.ints .i64 (marks b a.length))] := by
  rw [e_laws_markIntS]
  have e := m_laws_markIntS k hk [] az a az a.length hl k 0 a b rfl (by omega) h0 (by omega) (by omega)
  simpa using e
theorem m_laws_heldIntS (k : Nat) (hk : 2000000 ≤ k) (fu : List (Nat × Nat)) (z : Bool) (L : Nat) (b0 : Int) (hl : (L : Int) ≤ 1048576) (h0 : 0 ≤ b0) (hb : b0 ≤ 8796093022208) : ∀ (n i : Nat), i ≤ L → L - i < n →
    lp k laws_heldIntS [] fu 2 (n) (s_laws_heldIntS_2 (b0 + (i : Int)) (i : Int) z (marks b0 L)) = some [.int .i64 (b0 + L)]
  | 0, i, hi, hn => by omega
  | n + 1, i, hi, hn => by
    rw [l_laws_heldIntS_2]
    simp only [marks_length]
    by_cases h : i < L
    · simp (disch := omega) only [bindS, nth0, nth1, nth2, nth3, bit, cell0, cell1, cell2, cell3, cell4, cell5, cell6, cell7, cell8, cell9, cell10, cell11, cell12, cell13, cell14, cell15, cell16, cell17, cell18, cell19, cell20, cell21, cell22, cell23, toInt_int, toBool_bool, toStr_str, nil_arr, r3_arr, r4_arr, ints_arr, bools_arr, strs_arr, nI, condT, condF, Bool.not_true, Bool.not_false, Bool.and_true, Bool.true_and, Bool.and_false, Bool.false_and, Bool.or_true, Bool.true_or, Bool.or_false, Bool.false_or, beq_self_eq_true, dTT, dFF, dT, dF, bigI, big0, nilApp, wrapI, wrapU, List.length_set, List.length_replicate, Int.toNat_natCast, castS, castS2, imax, imin, marks_getD]
      have := m_laws_heldIntS k hk fu z L b0 hl h0 hb n (i + 1) (by omega) (by omega)
      rw [show b0 + ((i + 1 : Nat) : Int) = b0 + (i : Int) + 1 by omega] at this
      exact this
    · simp (disch := omega) only [bindS, nth0, nth1, nth2, nth3, bit, cell0, cell1, cell2, cell3, cell4, cell5, cell6, cell7, cell8, cell9, cell10, cell11, cell12, cell13, cell14, cell15, cell16, cell17, cell18, cell19, cell20, cell21, cell22, cell23, toInt_int, toBool_bool, toStr_str, nil_arr, r3_arr, r4_arr, ints_arr, bools_arr, strs_arr, nI, condT, condF, Bool.not_true, Bool.not_false, Bool.and_true, Bool.true_and, Bool.and_false, Bool.false_and, Bool.or_true, Bool.true_or, Bool.or_false, Bool.false_or, beq_self_eq_true, dTT, dFF, dT, dF, bigI, big0, nilApp, wrapI, wrapU, List.length_set, List.length_replicate, Int.toNat_natCast, castS, castS2, imax, imin]
      rw [show i = L by omega]
theorem c_laws_heldIntS (k : Nat) (hk : 2000000 ≤ k) (z : Bool) (L : Nat) (b0 : Int) (hl : (L : Int) ≤ 1048576) (h0 : 0 ≤ b0) (hb : b0 ≤ 8796093022208) : go (k + 1) laws_heldIntS [.arr false z (.ints .i64 (marks b0 L)), .int .i64 b0] = some [.int .i64 (b0 + L)] := by
  rw [e_laws_heldIntS]
  have e := m_laws_heldIntS k hk [] z L b0 hl h0 hb k 0 (by omega) (by omega)
  simpa using e
def markB (b : Int) : Nat → List Bool
  | 0 => []
  | n + 1 => decide (Int.tmod b 3 = 0) :: markB (b + 1) n
theorem markB_length : ∀ (n : Nat) (b : Int), (markB b n).length = n
  | 0, b => rfl
  | n + 1, b => by simp [markB, markB_length n]
theorem markB_getD : ∀ (n i : Nat) (b : Int), i < n → (markB b n).getD i false = decide (Int.tmod (b + i) 3 = 0)
  | 0, i, b, h => by omega
  | n + 1, 0, b, h => by simp [markB]
  | n + 1, i + 1, b, h => by
    have := markB_getD n i (b + 1) (by omega)
    simp only [markB, List.getD_cons_succ, this]
    rw [show b + 1 + (i : Int) = b + ((i + 1 : Nat) : Int) by omega]
end Go.Proofs.Ytfgccfajhedgdaa
