/- The law of FormatBars answers true. -/
import Derived.Test.YtfnhcnbpkfhmmaaXR2w
import Derived.Test.YtfnhcnbpkfhmmaaPB
import Derived.Test.YtfnhcnbpkfhmmaaPL2
namespace Go.Proofs.Ytfnhcnbpkfhmmaa
open Go.Ev
set_option linter.unusedVariables false
set_option linter.unusedSimpArgs false
theorem law_FormatBars (k : Nat) (hk : 2000000 ≤ k) (a0 : Int) (a1z : Bool) (a1 : List (Int × Int × Int)) (a2z : Bool) (a2 : List Int) (a3z : Bool) (a3 : List Int) (a4z : Bool) (a4 : List Int) (b : Int) (hl_a1 : (a1.length : Int) ≤ 9223372036854775807) (hl_a2 : (a2.length : Int) ≤ 9223372036854775807) (hl_a3 : (a3.length : Int) ≤ 9223372036854775807) (hl_a4 : (a4.length : Int) ≤ 9223372036854775807) : go (k + 10) laws_FnExactFormatBars [(.agg [(.int .i64 (a0)), (.arr false (a1z) (.r3 (a1))), (.arr false (a2z) (.ints .i64 (a2))), (.arr false (a3z) (.ints .i64 (a3))), (.arr false (a4z) (.ints .i64 (a4)))]), (.int .i64 (b))] = some [.bool true] := by
  rw [e_laws_FnExactFormatBars]
  by_cases h : (a1.length : Int) + a2.length + a3.length + a4.length ≤ 1048576
  case neg => simp (disch := omega) only [bindS, nth0, nth1, nth2, nth3, bit, cell0, cell1, cell2, cell3, cell4, cell5, cell6, cell7, cell8, cell9, cell10, cell11, cell12, cell13, cell14, cell15, cell16, cell17, cell18, cell19, cell20, cell21, cell22, cell23, toInt_int, toBool_bool, toStr_str, nil_arr, r3_arr, r4_arr, ints_arr, bools_arr, strs_arr, nI, cond_true, cond_false, Bool.not_true, Bool.not_false, Bool.and_true, Bool.true_and, Bool.and_false, Bool.false_and, Bool.or_true, Bool.true_or, Bool.or_false, Bool.false_or, beq_self_eq_true, dTT, dFF, dT, dF, bigI, big0, nilApp, wrapI, wrapU, List.length_set, List.length_replicate, Int.toNat_natCast, castS, castS2, imax, imin, c_laws_szState, if_neg h]
  simp (disch := omega) only [bindS, nth0, nth1, nth2, nth3, bit, cell0, cell1, cell2, cell3, cell4, cell5, cell6, cell7, cell8, cell9, cell10, cell11, cell12, cell13, cell14, cell15, cell16, cell17, cell18, cell19, cell20, cell21, cell22, cell23, toInt_int, toBool_bool, toStr_str, nil_arr, r3_arr, r4_arr, ints_arr, bools_arr, strs_arr, nI, cond_true, cond_false, Bool.not_true, Bool.not_false, Bool.and_true, Bool.true_and, Bool.and_false, Bool.false_and, Bool.or_true, Bool.true_or, Bool.or_false, Bool.false_or, beq_self_eq_true, dTT, dFF, dT, dF, bigI, big0, nilApp, wrapI, wrapU, List.length_set, List.length_replicate, Int.toNat_natCast, castS, castS2, imax, imin, c_laws_szState, if_pos h, c_laws_toState, c_spec_FormatBars, c_impl_FormatBars, c_laws_eqState]
end Go.Proofs.Ytfnhcnbpkfhmmaa
