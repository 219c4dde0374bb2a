/- Totals and ledgers of valid states; parts of states. -/
import Derived.Test.YtfgccfajhedgdaaXFC
import Derived.Test.YtfgccfajhedgdaaXD
import Derived.Test.YtfgccfajhedgdaaPCU3
import Derived.Test.YtfgccfajhedgdaaPW
namespace Go.Proofs.Ytfgccfajhedgdaa
open Go.Ev
set_option linter.unusedVariables false
set_option linter.unusedSimpArgs false
set_option maxRecDepth 20000
theorem c_laws_big (k : Nat) (hk : 2000000 ≤ k) (z : Bool) (l : List Int) : go (k + 1) laws_big [.arr false z (.ints .u8 l)] = some [.bool (decide (1048576 < (l.length : Int)))] := by
  rw [e_laws_big]
theorem c_spec_TotalMass (k : Nat) (hk : 2000000 ≤ k) (z1 z2 z3 z4 : Bool) (r : Int) (l : List Cell) (m t b : List Int) (F : StF r l m t b) : go (k + 8) spec_TotalMass [.agg [.int .i64 (r), .arr false (z1) (.r3 (l)), .arr false (z2) (.ints .i64 (m)), .arr false (z3) (.ints .i64 (t)), .arr false (z4) (.ints .i64 (b))]] = some [.int .i64 (isum m)] := by
  rw [e_spec_TotalMass]
  have := F.len; have := F.ml; have := F.tl; have := F.rr; have := F.bl
  have g := stF.2 F
  simp (disch := omega) only [bindS, nth0, nth1, nth2, nth3, bit, cell0, cell1, cell2, cell3, cell4, cell5, cell6, cell7, cell8, cell9, cell10, cell11, cell12, cell13, cell14, cell15, cell16, cell17, cell18, cell19, cell20, cell21, cell22, cell23, toInt_int, toBool_bool, toStr_str, nil_arr, r3_arr, r4_arr, ints_arr, bools_arr, strs_arr, nI, condT, condF, Bool.not_true, Bool.not_false, Bool.and_true, Bool.true_and, Bool.and_false, Bool.false_and, Bool.or_true, Bool.true_or, Bool.or_false, Bool.false_or, beq_self_eq_true, dTT, dFF, dT, dF, bigI, big0, nilApp, wrapI, wrapU, List.length_set, List.length_replicate, Int.toNat_natCast, castS, castS2, imax, imin, c_spec_StateOk, g]
  rw [c_spec_l07Sum _ (by omega) _ _ (by omega) F.mmem]
  simp (disch := omega) only [bindS, nth0, nth1, nth2, nth3, bit, cell0, cell1, cell2, cell3, cell4, cell5, cell6, cell7, cell8, cell9, cell10, cell11, cell12, cell13, cell14, cell15, cell16, cell17, cell18, cell19, cell20, cell21, cell22, cell23, toInt_int, toBool_bool, toStr_str, nil_arr, r3_arr, r4_arr, ints_arr, bools_arr, strs_arr, nI, condT, condF, Bool.not_true, Bool.not_false, Bool.and_true, Bool.true_and, Bool.and_false, Bool.false_and, Bool.or_true, Bool.true_or, Bool.or_false, Bool.false_or, beq_self_eq_true, dTT, dFF, dT, dF, bigI, big0, nilApp, wrapI, wrapU, List.length_set, List.length_replicate, Int.toNat_natCast, castS, castS2, imax, imin]
theorem c_spec_TotalTracer (k : Nat) (hk : 2000000 ≤ k) (z1 z2 z3 z4 : Bool) (r : Int) (l : List Cell) (m t b : List Int) (F : StF r l m t b) : go (k + 8) spec_TotalTracer [.agg [.int .i64 (r), .arr false (z1) (.r3 (l)), .arr false (z2) (.ints .i64 (m)), .arr false (z3) (.ints .i64 (t)), .arr false (z4) (.ints .i64 (b))]] = some [.int .i64 (isum t)] := by
  rw [e_spec_TotalTracer]
  have := F.len; have := F.ml; have := F.tl; have := F.rr; have := F.bl
  have g := stF.2 F
  simp (disch := omega) only [bindS, nth0, nth1, nth2, nth3, bit, cell0, cell1, cell2, cell3, cell4, cell5, cell6, cell7, cell8, cell9, cell10, cell11, cell12, cell13, cell14, cell15, cell16, cell17, cell18, cell19, cell20, cell21, cell22, cell23, toInt_int, toBool_bool, toStr_str, nil_arr, r3_arr, r4_arr, ints_arr, bools_arr, strs_arr, nI, condT, condF, Bool.not_true, Bool.not_false, Bool.and_true, Bool.true_and, Bool.and_false, Bool.false_and, Bool.or_true, Bool.true_or, Bool.or_false, Bool.false_or, beq_self_eq_true, dTT, dFF, dT, dF, bigI, big0, nilApp, wrapI, wrapU, List.length_set, List.length_replicate, Int.toNat_natCast, castS, castS2, imax, imin, c_spec_StateOk, g]
  rw [c_spec_l07Sum _ (by omega) _ _ (by omega) F.tmem]
  simp (disch := omega) only [bindS, nth0, nth1, nth2, nth3, bit, cell0, cell1, cell2, cell3, cell4, cell5, cell6, cell7, cell8, cell9, cell10, cell11, cell12, cell13, cell14, cell15, cell16, cell17, cell18, cell19, cell20, cell21, cell22, cell23, toInt_int, toBool_bool, toStr_str, nil_arr, r3_arr, r4_arr, ints_arr, bools_arr, strs_arr, nI, condT, condF, Bool.not_true, Bool.not_false, Bool.and_true, Bool.true_and, Bool.and_false, Bool.false_and, Bool.or_true, Bool.true_or, Bool.or_false, Bool.false_or, beq_self_eq_true, dTT, dFF, dT, dF, bigI, big0, nilApp, wrapI, wrapU, List.length_set, List.length_replicate, Int.toNat_natCast, castS, castS2, imax, imin]
theorem c_spec_LedgerHolds (k : Nat) (hk : 2000000 ≤ k) (r : Int) (l : List Cell) (m t b : List Int) (r' : Int) (l' : List Cell) (m' t' b' : List Int) (F : StF r l m t b) (G : StF r' l' m' t' b') (q0 q1 q2 q3 : Int) (hm : isum m' = isum m + q0 - q1) (ht : isum t' = isum t + q2 - q3) (b0 : 0 ≤ q0 ∧ q0 ≤ 1000000000000000000) (b1 : 0 ≤ q1 ∧ q1 ≤ 1000000000000000000) (b2 : 0 ≤ q2 ∧ q2 ≤ 1000000000000000000) (b3 : 0 ≤ q3 ∧ q3 ≤ 1000000000000000000) :
    go (k + 9) spec_LedgerHolds [.agg [.int .i64 (r), .arr false (false) (.r3 (l)), .arr false (false) (.ints .i64 (m)), .arr false (false) (.ints .i64 (t)), .arr false (false) (.ints .i64 (b))], .agg [.int .i64 (r'), .arr false (false) (.r3 (l')), .arr false (false) (.ints .i64 (m')), .arr false (false) (.ints .i64 (t')), .arr false (false) (.ints .i64 (b'))], .agg [.int .i64 q0, .int .i64 q1, .int .i64 q2, .int .i64 q3]] = some [.bool true] := by
  rw [e_spec_LedgerHolds]
  have := F.len; have := F.ml; have := F.tl; have := F.rr; have := F.bl; have := F.msum; have := F.tsum
  have := G.len; have := G.ml; have := G.tl; have := G.rr; have := G.bl; have := G.msum; have := G.tsum
  have g := stF.2 F; have g' := stF.2 G
  simp (disch := omega) only [bindS, nth0, nth1, nth2, nth3, bit, cell0, cell1, cell2, cell3, cell4, cell5, cell6, cell7, cell8, cell9, cell10, cell11, cell12, cell13, cell14, cell15, cell16, cell17, cell18, cell19, cell20, cell21, cell22, cell23, toInt_int, toBool_bool, toStr_str, nil_arr, r3_arr, r4_arr, ints_arr, bools_arr, strs_arr, nI, condT, condF, Bool.not_true, Bool.not_false, Bool.and_true, Bool.true_and, Bool.and_false, Bool.false_and, Bool.or_true, Bool.true_or, Bool.or_false, Bool.false_or, beq_self_eq_true, dTT, dFF, dT, dF, bigI, big0, nilApp, wrapI, wrapU, List.length_set, List.length_replicate, Int.toNat_natCast, castS, castS2, imax, imin, c_spec_StateOk, g, g']
  rw [c_spec_TotalMass _ (by omega) _ _ _ _ _ _ _ _ _ F, c_spec_TotalMass _ (by omega) _ _ _ _ _ _ _ _ _ G]
  simp (disch := omega) only [bindS, nth0, nth1, nth2, nth3, bit, cell0, cell1, cell2, cell3, cell4, cell5, cell6, cell7, cell8, cell9, cell10, cell11, cell12, cell13, cell14, cell15, cell16, cell17, cell18, cell19, cell20, cell21, cell22, cell23, toInt_int, toBool_bool, toStr_str, nil_arr, r3_arr, r4_arr, ints_arr, bools_arr, strs_arr, nI, condT, condF, Bool.not_true, Bool.not_false, Bool.and_true, Bool.true_and, Bool.and_false, Bool.false_and, Bool.or_true, Bool.true_or, Bool.or_false, Bool.false_or, beq_self_eq_true, dTT, dFF, dT, dF, bigI, big0, nilApp, wrapI, wrapU, List.length_set, List.length_replicate, Int.toNat_natCast, castS, castS2, imax, imin]
  rw [c_spec_TotalTracer _ (by omega) _ _ _ _ _ _ _ _ _ F, c_spec_TotalTracer _ (by omega) _ _ _ _ _ _ _ _ _ G]
  simp (disch := omega) only [bindS, nth0, nth1, nth2, nth3, bit, cell0, cell1, cell2, cell3, cell4, cell5, cell6, cell7, cell8, cell9, cell10, cell11, cell12, cell13, cell14, cell15, cell16, cell17, cell18, cell19, cell20, cell21, cell22, cell23, toInt_int, toBool_bool, toStr_str, nil_arr, r3_arr, r4_arr, ints_arr, bools_arr, strs_arr, nI, condT, condF, Bool.not_true, Bool.not_false, Bool.and_true, Bool.true_and, Bool.and_false, Bool.false_and, Bool.or_true, Bool.true_or, Bool.or_false, Bool.false_or, beq_self_eq_true, dTT, dFF, dT, dF, bigI, big0, nilApp, wrapI, wrapU, List.length_set, List.length_replicate, Int.toNat_natCast, castS, castS2, imax, imin]
theorem massOk_take : ∀ (n : Nat) (m t : List Int), massOk m t = true → massOk (m.take n) (t.take n) = true
  | 0, m, t, h => by simp [massOk]
  | n + 1, [], t, h => by simp [massOk]
  | n + 1, x :: m, [], h => by simp [massOk]
  | n + 1, x :: m, y :: t, h => by
    simp only [List.take_succ_cons, massOk, Bool.and_eq_true] at h ⊢
    exact ⟨h.1, h.2.1, massOk_take n m t h.2.2⟩
theorem massOk_drop : ∀ (n : Nat) (m t : List Int), massOk m t = true → massOk (m.drop n) (t.drop n) = true
  | 0, m, t, h => by simpa using h
  | n + 1, [], t, h => by simp [massOk]
  | n + 1, x :: m, [], h => by cases h' : List.drop n m <;> simp [massOk, h']
  | n + 1, x :: m, y :: t, h => by
    simp only [List.drop_succ_cons, massOk, Bool.and_eq_true] at h ⊢
    exact massOk_drop n m t h.2.2
theorem isum_cut (m : List Int) (n : Nat) : isum (m.take n) + isum (m.drop n) = isum m := by
  rw [← isum_append, List.take_append_drop]
theorem sameS_refl (r : Int) (l : List Cell) (m t b : List Int) : sameS r r l l m t b m t b = true := by simp [sameS, sameM]
end Go.Proofs.Ytfgccfajhedgdaa
