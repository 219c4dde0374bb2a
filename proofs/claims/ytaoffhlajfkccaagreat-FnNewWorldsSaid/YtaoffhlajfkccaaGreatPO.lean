/- Worlds that hold: both readings agree. -/
import Derived.Test.YtaoffhlajfkccaaGreatXO
import Derived.Test.YtaoffhlajfkccaaGreatPN
import Derived.Test.YtaoffhlajfkccaaGreatPL3
namespace Go.Proofs.YtaoffhlajfkccaaGreat
open Go.Ev
set_option linter.unusedVariables false
set_option linter.unusedSimpArgs false
def ledOk (a b c d : Int) : Bool := inR a 0 1000000000000000 && (inR b 0 1000000000000000 && (inR c 0 1000000000000000 && inR d 0 1000000000000000))
theorem c_spec_l36Amount (k : Nat) (hk : 2000000 ≤ k) (a : Int) : go (k + 2) spec_l36Amount [(.int .i64 (a))] = some [.bool (inR a 0 1000000000000000)] := by
  rw [e_spec_l36Amount]
  simp (disch := omega) only [bindS, nth0, nth1, nth2, nth3, bit, cell0, cell1, cell2, cell3, cell4, cell5, cell6, cell7, cell8, cell9, cell10, cell11, cell12, cell13, cell14, cell15, cell16, cell17, cell18, cell19, cell20, cell21, cell22, cell23, toInt_int, toBool_bool, toStr_str, nil_arr, r3_arr, r4_arr, ints_arr, bools_arr, strs_arr, nI, condT, condF, Bool.not_true, Bool.not_false, Bool.and_true, Bool.true_and, Bool.and_false, Bool.false_and, Bool.or_true, Bool.true_or, Bool.or_false, Bool.false_or, beq_self_eq_true, dTT, dFF, dT, dF, bigI, big0, nilApp, wrapI, wrapU, List.length_set, List.length_replicate, Int.toNat_natCast, castS, castS2, imax, imin, c_spec_l01In]
theorem c_impl_ledgerOk (k : Nat) (hk : 2000000 ≤ k) (a0 : Int) (a1 : Int) (a2 : Int) (a3 : Int) : go (k + 2) impl_ledgerOk [(.agg [(.int .i64 (a0)), (.int .i64 (a1)), (.int .i64 (a2)), (.int .i64 (a3))])] = some [.bool (ledOk a0 a1 a2 a3)] := by
  rw [e_impl_ledgerOk]
  simp (disch := omega) only [bindS, nth0, nth1, nth2, nth3, bit, cell0, cell1, cell2, cell3, cell4, cell5, cell6, cell7, cell8, cell9, cell10, cell11, cell12, cell13, cell14, cell15, cell16, cell17, cell18, cell19, cell20, cell21, cell22, cell23, toInt_int, toBool_bool, toStr_str, nil_arr, r3_arr, r4_arr, ints_arr, bools_arr, strs_arr, nI, condT, condF, Bool.not_true, Bool.not_false, Bool.and_true, Bool.true_and, Bool.and_false, Bool.false_and, Bool.or_true, Bool.true_or, Bool.or_false, Bool.false_or, beq_self_eq_true, dTT, dFF, dT, dF, bigI, big0, nilApp, wrapI, wrapU, List.length_set, List.length_replicate, Int.toNat_natCast, castS, castS2, imax, imin, c_impl_within, cond_and']
  rfl
def wldOk (a0 : Int) (a1 : List Cell) (a2 a3 a4 : List Int) (b0 b1 b2 b3 b4 b5 b6 b7 b8 s c0 c1 c2 c3 f g : Int) : Bool :=
  stOk a0 a1 a2 a3 a4 && (planOk b0 b1 b2 b3 b4 b5 b6 b7 b8 && (inR s 0 100000 && (ledOk c0 c1 c2 c3 && (decide (isum a2 - c0 + c1 = f) && decide (isum a3 - c2 + c3 = g)))))
theorem inR_big {a m : Int} (h : inR a 0 m = true) : 0 ≤ a ∧ a ≤ m := by
  simp only [inR, Bool.and_eq_true, decide_eq_true_eq] at h
  omega
theorem dec_sym (a b : Int) : decide (a = b) = decide (b = a) := decide_eq_decide.2 eq_comm
theorem cond_nn (b : Bool) (x y : Option (List D)) : cond (!b) x y = cond b y x := by cases b <;> rfl
theorem c_spec_WorldOk (k : Nat) (hk : 2000000 ≤ k) (a0 : Int) (a1z : Bool) (a1 : List (Int × Int × Int)) (a2z : Bool) (a2 : List Int) (a3z : Bool) (a3 : List Int) (a4z : Bool) (a4 : List Int) (a5 : Int) (a6 : Int) (a7 : Int) (a8 : Int) (a9 : Int) (a10 : Int) (a11 : Int) (a12 : Int) (a13 : Int) (a14 : Int) (a15 : Int) (a16 : Int) (a17 : Int) (a18 : Int) (a19 : Int) (a20 : Int) (h1 : (a1.length : Int) ≤ 1048576) (h4 : (a4.length : Int) ≤ 1048576) :
    go (k + 8) spec_WorldOk [(.agg [(.int .i64 (a0)), (.arr false (a1z) (.r3 (a1))), (.arr false (a2z) (.ints .i64 (a2))), (.arr false (a3z) (.ints .i64 (a3))), (.arr false (a4z) (.ints .i64 (a4))), (.int .i64 (a5)), (.int .i64 (a6)), (.int .i64 (a7)), (.int .i64 (a8)), (.int .i64 (a9)), (.int .i64 (a10)), (.int .i64 (a11)), (.int .i64 (a12)), (.int .i64 (a13)), (.int .i64 (a14)), (.int .i64 (a15)), (.int .i64 (a16)), (.int .i64 (a17)), (.int .i64 (a18)), (.int .i64 (a19)), (.int .i64 (a20))])] = some [.bool (wldOk a0 a1 a2 a3 a4 a5 a6 a7 a8 a9 a10 a11 a12 a13 a14 a15 a16 a17 a18 a19 a20)] := by
  rw [e_spec_WorldOk]
  simp (disch := omega) only [bindS, nth0, nth1, nth2, nth3, bit, cell0, cell1, cell2, cell3, cell4, cell5, cell6, cell7, cell8, cell9, cell10, cell11, cell12, cell13, cell14, cell15, cell16, cell17, cell18, cell19, cell20, cell21, cell22, cell23, toInt_int, toBool_bool, toStr_str, nil_arr, r3_arr, r4_arr, ints_arr, bools_arr, strs_arr, nI, condT, condF, Bool.not_true, Bool.not_false, Bool.and_true, Bool.true_and, Bool.and_false, Bool.false_and, Bool.or_true, Bool.true_or, Bool.or_false, Bool.false_or, beq_self_eq_true, dTT, dFF, dT, dF, bigI, big0, nilApp, wrapI, wrapU, List.length_set, List.length_replicate, Int.toNat_natCast, castS, castS2, imax, imin, c_spec_StateOk, c_spec_PlanOk, c_spec_l01In, c_spec_l36Amount]
  simp only [wldOk, ledOk]
  cases g : stOk a0 a1 a2 a3 a4
  · rfl
  cases g2 : planOk a5 a6 a7 a8 a9 a10 a11 a12 a13
  · rfl
  cases g3 : inR a14 0 100000
  · rfl
  cases g4 : inR a15 0 1000000000000000
  · rfl
  cases g5 : inR a16 0 1000000000000000
  · rfl
  cases g6 : inR a17 0 1000000000000000
  · rfl
  cases g7 : inR a18 0 1000000000000000
  · rfl
  have F := stF.1 g
  have := F.len; have := F.ml; have := F.tl; have := F.bl; have := F.rr
  have b4 := inR_big g4; have b5 := inR_big g5; have b6 := inR_big g6; have b7 := inR_big g7
  have s1 := isum_le _ F.mmem; have s2 := isum_le _ F.tmem
  simp only [Bool.not_true, condF, Bool.true_and]
  rw [c_spec_l07Sum _ (by omega) _ _ (by omega) F.mmem, c_spec_l07Sum _ (by omega) _ _ (by omega) F.tmem]
  simp (disch := omega) only [bindS, nth0, nth1, nth2, nth3, bit, cell0, cell1, cell2, cell3, cell4, cell5, cell6, cell7, cell8, cell9, cell10, cell11, cell12, cell13, cell14, cell15, cell16, cell17, cell18, cell19, cell20, cell21, cell22, cell23, toInt_int, toBool_bool, toStr_str, nil_arr, r3_arr, r4_arr, ints_arr, bools_arr, strs_arr, nI, condT, condF, Bool.not_true, Bool.not_false, Bool.and_true, Bool.true_and, Bool.and_false, Bool.false_and, Bool.or_true, Bool.true_or, Bool.or_false, Bool.false_or, beq_self_eq_true, dTT, dFF, dT, dF, bigI, big0, nilApp, wrapI, wrapU, List.length_set, List.length_replicate, Int.toNat_natCast, castS, castS2, imax, imin, cond_and']
theorem c_impl_WorldOk (k : Nat) (hk : 2000000 ≤ k) (a0 : Int) (a1z : Bool) (a1 : List (Int × Int × Int)) (a2z : Bool) (a2 : List Int) (a3z : Bool) (a3 : List Int) (a4z : Bool) (a4 : List Int) (a5 : Int) (a6 : Int) (a7 : Int) (a8 : Int) (a9 : Int) (a10 : Int) (a11 : Int) (a12 : Int) (a13 : Int) (a14 : Int) (a15 : Int) (a16 : Int) (a17 : Int) (a18 : Int) (a19 : Int) (a20 : Int) (h1 : (a1.length : Int) ≤ 1048576) (h4 : (a4.length : Int) ≤ 1048576) :
    go (k + 9) impl_WorldOk [(.agg [(.int .i64 (a0)), (.arr false (a1z) (.r3 (a1))), (.arr false (a2z) (.ints .i64 (a2))), (.arr false (a3z) (.ints .i64 (a3))), (.arr false (a4z) (.ints .i64 (a4))), (.int .i64 (a5)), (.int .i64 (a6)), (.int .i64 (a7)), (.int .i64 (a8)), (.int .i64 (a9)), (.int .i64 (a10)), (.int .i64 (a11)), (.int .i64 (a12)), (.int .i64 (a13)), (.int .i64 (a14)), (.int .i64 (a15)), (.int .i64 (a16)), (.int .i64 (a17)), (.int .i64 (a18)), (.int .i64 (a19)), (.int .i64 (a20))])] = some [.bool (wldOk a0 a1 a2 a3 a4 a5 a6 a7 a8 a9 a10 a11 a12 a13 a14 a15 a16 a17 a18 a19 a20)] := by
  rw [e_impl_WorldOk]
  simp (disch := omega) only [bindS, nth0, nth1, nth2, nth3, bit, cell0, cell1, cell2, cell3, cell4, cell5, cell6, cell7, cell8, cell9, cell10, cell11, cell12, cell13, cell14, cell15, cell16, cell17, cell18, cell19, cell20, cell21, cell22, cell23, toInt_int, toBool_bool, toStr_str, nil_arr, r3_arr, r4_arr, ints_arr, bools_arr, strs_arr, nI, condT, condF, Bool.not_true, Bool.not_false, Bool.and_true, Bool.true_and, Bool.and_false, Bool.false_and, Bool.or_true, Bool.true_or, Bool.or_false, Bool.false_or, beq_self_eq_true, dTT, dFF, dT, dF, bigI, big0, nilApp, wrapI, wrapU, List.length_set, List.length_replicate, Int.toNat_natCast, castS, castS2, imax, imin, c_impl_StateOk, c_impl_PlanOk, c_impl_within, c_impl_ledgerOk]
  simp only [wldOk]
  cases g : stOk a0 a1 a2 a3 a4
  · rfl
  cases g2 : planOk a5 a6 a7 a8 a9 a10 a11 a12 a13
  · rfl
  cases g3 : inR a14 0 100000
  · rfl
  cases g4 : ledOk a15 a16 a17 a18
  · rfl
  have F := stF.1 g
  have := F.len; have := F.ml; have := F.tl; have := F.bl; have := F.rr
  have g4' := g4
  simp only [ledOk, Bool.and_eq_true] at g4'
  obtain ⟨i1, i2, i3, i4⟩ := g4'
  have b4 := inR_big i1; have b5 := inR_big i2; have b6 := inR_big i3; have b7 := inR_big i4
  have s1 := isum_le _ F.mmem; have s2 := isum_le _ F.tmem
  simp only [condT, Bool.true_and]
  rw [c_impl_sum _ (by omega) _ _ (by omega) F.mmem, c_impl_sum _ (by omega) _ _ (by omega) F.tmem]
  simp (disch := omega) only [bindS, nth0, nth1, nth2, nth3, bit, cell0, cell1, cell2, cell3, cell4, cell5, cell6, cell7, cell8, cell9, cell10, cell11, cell12, cell13, cell14, cell15, cell16, cell17, cell18, cell19, cell20, cell21, cell22, cell23, toInt_int, toBool_bool, toStr_str, nil_arr, r3_arr, r4_arr, ints_arr, bools_arr, strs_arr, nI, condT, condF, Bool.not_true, Bool.not_false, Bool.and_true, Bool.true_and, Bool.and_false, Bool.false_and, Bool.or_true, Bool.true_or, Bool.or_false, Bool.false_or, beq_self_eq_true, dTT, dFF, dT, dF, bigI, big0, nilApp, wrapI, wrapU, List.length_set, List.length_replicate, Int.toNat_natCast, castS, castS2, imax, imin, cond_and']
  rw [dec_sym a19, dec_sym a20]
end Go.Proofs.YtaoffhlajfkccaaGreat
