/- The law of the text of a ledger answers true. -/
import Derived.Test.YtjfjniebmdafeaaDoorPFI
namespace Go.Proofs.YtjfjniebmdafeaaDoor
open Go.Ev
set_option linter.unusedVariables false
set_option linter.unusedSimpArgs false
set_option maxRecDepth 20000
theorem itoa_sz {n : Int} (h : inI64 n = true) : ByteArray.size (ba (Lib.itoa n)) ≤ 20 := by
  rw [ba_size]; exact itoa_size n h
/-- the text of a ledger -/
def ledL (a b c d : Int) : List UInt8 := spacedL (Lib.itoa a) [b, c, d]
theorem c_spec_FormatLedger (k : Nat) (hk : 2000000 ≤ k) (a b c d : Int) (ha : inI64 a = true) (hb : inI64 b = true) (hc : inI64 c = true) (hd : inI64 d = true) : go (k + 3) spec_FormatLedger [.agg [.int .i64 a, .int .i64 b, .int .i64 c, .int .i64 d]] = some [.str (ba (ledL a b c d))] := by
  rw [e_spec_FormatLedger]
  have e : ledL a b c d = Lib.itoa a ++ [32] ++ Lib.itoa b ++ [32] ++ Lib.itoa c ++ [32] ++ Lib.itoa d := by simp [ledL, spacedL]
  have sa := itoa_size a ha; have sb := itoa_size b hb; have sc := itoa_size c hc; have sd := itoa_size d hd
  have l1 : ({ data := #[(32 : UInt8)] } : ByteArray) = ba [32] := Eq.trans rfl rfl
  have fa := c_spec_FormatInt k (by omega) a ha
  have fb := c_spec_FormatInt k (by omega) b hb
  have fc := c_spec_FormatInt k (by omega) c hc
  have fd := c_spec_FormatInt k (by omega) d hd
  rw [e]
  simp (disch := omega) only [bindS, nth0, nth1, nth2, nth3, bit, cell0, cell1, cell2, cell3, cell4, cell5, cell6, cell7, cell8, cell9, cell10, cell11, cell12, cell13, cell14, cell15, cell16, cell17, cell18, cell19, cell20, cell21, cell22, cell23, toInt_int, toBool_bool, toStr_str, nil_arr, r3_arr, r4_arr, ints_arr, bools_arr, strs_arr, nI, condT, condF, Bool.not_true, Bool.not_false, Bool.and_true, Bool.true_and, Bool.and_false, Bool.false_and, Bool.or_true, Bool.true_or, Bool.or_false, Bool.false_or, beq_self_eq_true, dTT, dFF, dT, dF, bigI, big0, nilApp, wrapI, wrapU, List.length_set, List.length_replicate, Int.toNat_natCast, castS, castS2, imax, imin, l1, fa, fb, fc, fd, ba_app, ba_size, List.length_append, List.length_cons, List.length_nil]
theorem c_impl_FormatLedger (k : Nat) (hk : 2000000 ≤ k) (a b c d : Int) (ha : inI64 a = true) (hb : inI64 b = true) (hc : inI64 c = true) (hd : inI64 d = true) : go (k + 3) impl_FormatLedger [.agg [.int .i64 a, .int .i64 b, .int .i64 c, .int .i64 d]] = some [.str (ba (ledL a b c d))] := by
  rw [e_impl_FormatLedger]
  have fa := c_impl_FormatInt k (by omega) a ha
  have fs := c_impl_spaced (k + 1) (ba (Lib.itoa a)) false [b, c, d] (by have := itoa_sz ha; omega) (by simp) (by simp [hb, hc, hd])
  simp (disch := omega) only [bindS, nth0, nth1, nth2, nth3, bit, cell0, cell1, cell2, cell3, cell4, cell5, cell6, cell7, cell8, cell9, cell10, cell11, cell12, cell13, cell14, cell15, cell16, cell17, cell18, cell19, cell20, cell21, cell22, cell23, toInt_int, toBool_bool, toStr_str, nil_arr, r3_arr, r4_arr, ints_arr, bools_arr, strs_arr, nI, condT, condF, Bool.not_true, Bool.not_false, Bool.and_true, Bool.true_and, Bool.and_false, Bool.false_and, Bool.or_true, Bool.true_or, Bool.or_false, Bool.false_or, beq_self_eq_true, dTT, dFF, dT, dF, bigI, big0, nilApp, wrapI, wrapU, List.length_set, List.length_replicate, Int.toNat_natCast, castS, castS2, imax, imin, fa, fs]
  rfl
theorem law_FormatLedger (k : Nat) (hk : 2000000 ≤ k) (a0 : Int) (a1 : Int) (a2 : Int) (a3 : Int) (u0 : -9223372036854775808 ≤ a0 ∧ a0 ≤ 9223372036854775807) (u1 : -9223372036854775808 ≤ a1 ∧ a1 ≤ 9223372036854775807) (u2 : -9223372036854775808 ≤ a2 ∧ a2 ≤ 9223372036854775807) (u3 : -9223372036854775808 ≤ a3 ∧ a3 ≤ 9223372036854775807) : go (k + 4) laws_FnExactFormatLedger [(.agg [(.int .i64 (a0)), (.int .i64 (a1)), (.int .i64 (a2)), (.int .i64 (a3))])] = some [.bool true] := by
  have i : ∀ {x : Int}, -9223372036854775808 ≤ x ∧ x ≤ 9223372036854775807 → inI64 x = true := fun h => by unfold inI64; rw [decide_eq_true h.1, decide_eq_true h.2]; rfl
  have f1 := c_spec_FormatLedger k (by omega) a0 a1 a2 a3 (i u0) (i u1) (i u2) (i u3)
  have f2 := c_impl_FormatLedger k (by omega) a0 a1 a2 a3 (i u0) (i u1) (i u2) (i u3)
  rw [e_laws_FnExactFormatLedger]
  simp (disch := omega) only [bindS, nth0, nth1, nth2, nth3, bit, cell0, cell1, cell2, cell3, cell4, cell5, cell6, cell7, cell8, cell9, cell10, cell11, cell12, cell13, cell14, cell15, cell16, cell17, cell18, cell19, cell20, cell21, cell22, cell23, toInt_int, toBool_bool, toStr_str, nil_arr, r3_arr, r4_arr, ints_arr, bools_arr, strs_arr, nI, condT, condF, Bool.not_true, Bool.not_false, Bool.and_true, Bool.true_and, Bool.and_false, Bool.false_and, Bool.or_true, Bool.true_or, Bool.or_false, Bool.false_or, beq_self_eq_true, dTT, dFF, dT, dF, bigI, big0, nilApp, wrapI, wrapU, List.length_set, List.length_replicate, Int.toNat_natCast, castS, castS2, imax, imin, e_laws_toLedger, f1, f2, decide_true]
end Go.Proofs.YtjfjniebmdafeaaDoor
