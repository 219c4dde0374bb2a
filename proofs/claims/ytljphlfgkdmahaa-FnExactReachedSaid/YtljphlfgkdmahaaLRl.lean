/- The laws of Reached and ConeWidth answer true. -/
import Derived.Test.YtljphlfgkdmahaaXRl
import Derived.Test.YtljphlfgkdmahaaPR
import Derived.Test.YtljphlfgkdmahaaPL
namespace Go.Proofs.Ytljphlfgkdmahaa
open Go.Ev
set_option linter.unusedVariables false
set_option linter.unusedSimpArgs false
theorem law_Reached (k : Nat) (hk : 2000000 ≤ k) (a0 : Int) (a1z : Bool) (a1 : List (Int × Int × Int)) (b : Int) (c : Int) (d : Int) (hl : (a1.length : Int) ≤ 9223372036854775807) (hc : c ≤ 9223372036854775807) (hd : d ≤ 9223372036854775807) : go (k + 8) laws_FnExactReached [(.agg [(.int .i64 (a0)), (.arr false (a1z) (.r3 (a1)))]), (.int .i64 (b)), (.int .i64 (c)), (.int .i64 (d))] = some [.bool true] := by
  rw [e_laws_FnExactReached]
  by_cases h : (a1.length : Int) ≤ 1048576
  · simp (disch := omega) only [bindS, nth0, nth1, nth2, nth3, bit, cell0, cell1, cell2, cell3, cell4, toInt_int, toBool_bool, toStr_str, nil_arr, r3_arr, r4_arr, ints_arr, bools_arr, strs_arr, nI, cond_true, cond_false, Bool.not_true, Bool.not_false, Bool.and_true, Bool.true_and, Bool.and_false, Bool.false_and, Bool.or_true, Bool.true_or, Bool.or_false, Bool.false_or, dTT, dFF, dT, dF, bigI, big0, nilApp, wrapI, wrapU, List.length_set, List.length_replicate, Int.toNat_natCast, castS, castS2, castP, imax, imin, c_laws_szMesh, if_pos h, c_laws_toMesh, c_spec_Reached, c_impl_Reached]
    have hr := reached_length (roots := a0) (l := a1) (b := b) (c := c) (d := d)
    obtain ⟨l', e⟩ := c_laws_markMesh (k + 7 - 2) (by omega) a0 false a1 1 h (by omega) (by omega)
    have e' := e
    rw [show k + 7 - 2 + 2 = k + 7 by omega] at e'
    simp (disch := omega) only [bindS, nth0, nth1, nth2, nth3, bit, cell0, cell1, cell2, cell3, cell4, toInt_int, toBool_bool, toStr_str, nil_arr, r3_arr, r4_arr, ints_arr, bools_arr, strs_arr, nI, cond_true, cond_false, Bool.not_true, Bool.not_false, Bool.and_true, Bool.true_and, Bool.and_false, Bool.false_and, Bool.or_true, Bool.true_or, Bool.or_false, Bool.false_or, dTT, dFF, dT, dF, bigI, big0, nilApp, wrapI, wrapU, List.length_set, List.length_replicate, Int.toNat_natCast, castS, castS2, castP, imax, imin, c_laws_eqBoolS, c_laws_eqMesh, e', c_laws_markBoolS, c_laws_heldBoolS, markB_length]
  · simp (disch := omega) only [bindS, nth0, nth1, nth2, nth3, bit, cell0, cell1, cell2, cell3, cell4, toInt_int, toBool_bool, toStr_str, nil_arr, r3_arr, r4_arr, ints_arr, bools_arr, strs_arr, nI, cond_true, cond_false, Bool.not_true, Bool.not_false, Bool.and_true, Bool.true_and, Bool.and_false, Bool.false_and, Bool.or_true, Bool.true_or, Bool.or_false, Bool.false_or, dTT, dFF, dT, dF, bigI, big0, nilApp, wrapI, wrapU, List.length_set, List.length_replicate, Int.toNat_natCast, castS, castS2, castP, imax, imin, c_laws_szMesh, if_neg h]
theorem law_ConeWidth (k : Nat) (hk : 2000000 ≤ k) (a0 : Int) (a1z : Bool) (a1 : List (Int × Int × Int)) (b : Int) (c : Int) (hl : (a1.length : Int) ≤ 9223372036854775807) (hc : c ≤ 9223372036854775807) : go (k + 9) laws_FnExactConeWidth [(.agg [(.int .i64 (a0)), (.arr false (a1z) (.r3 (a1)))]), (.int .i64 (b)), (.int .i64 (c))] = some [.bool true] := by
  rw [e_laws_FnExactConeWidth]
  by_cases h : (a1.length : Int) ≤ 1048576
  · simp (disch := omega) only [bindS, nth0, nth1, nth2, nth3, bit, cell0, cell1, cell2, cell3, cell4, toInt_int, toBool_bool, toStr_str, nil_arr, r3_arr, r4_arr, ints_arr, bools_arr, strs_arr, nI, cond_true, cond_false, Bool.not_true, Bool.not_false, Bool.and_true, Bool.true_and, Bool.and_false, Bool.false_and, Bool.or_true, Bool.true_or, Bool.or_false, Bool.false_or, dTT, dFF, dT, dF, bigI, big0, nilApp, wrapI, wrapU, List.length_set, List.length_replicate, Int.toNat_natCast, castS, castS2, castP, imax, imin, c_laws_szMesh, if_pos h, c_laws_toMesh, c_spec_ConeWidth, c_impl_ConeWidth, c_laws_eqMesh]
  · simp (disch := omega) only [bindS, nth0, nth1, nth2, nth3, bit, cell0, cell1, cell2, cell3, cell4, toInt_int, toBool_bool, toStr_str, nil_arr, r3_arr, r4_arr, ints_arr, bools_arr, strs_arr, nI, cond_true, cond_false, Bool.not_true, Bool.not_false, Bool.and_true, Bool.true_and, Bool.and_false, Bool.false_and, Bool.or_true, Bool.true_or, Bool.or_false, Bool.false_or, dTT, dFF, dT, dF, bigI, big0, nilApp, wrapI, wrapU, List.length_set, List.length_replicate, Int.toNat_natCast, castS, castS2, castP, imax, imin, c_laws_szMesh, if_neg h]
end Go.Proofs.Ytljphlfgkdmahaa
