/- The laws' own helpers over worlds, one step each. -/
import Derived.Test.YtfgccfajhedgdaaXA
namespace Go.Proofs.Ytfgccfajhedgdaa
open Go.Ev
set_option linter.unusedVariables false
theorem e_laws_toBorder (k : Nat) (a0 : Int) (a1 : Int) (a2 : Int) : go (k + 1) laws_toBorder [(.agg [(.int .i64 (a0)), (.int .i64 (a1)), (.int .i64 (a2))])] =
    some [(.agg [(.int .i64 (a0)), (.int .i64 (a1)), (.int .i64 (a2))])] := by kernel_rfl
theorem e_laws_toLedger (k : Nat) (a0 : Int) (a1 : Int) (a2 : Int) (a3 : Int) : go (k + 1) laws_toLedger [(.agg [(.int .i64 (a0)), (.int .i64 (a1)), (.int .i64 (a2)), (.int .i64 (a3))])] =
    some [(.agg [(.int .i64 (a0)), (.int .i64 (a1)), (.int .i64 (a2)), (.int .i64 (a3))])] := by kernel_rfl
theorem e_laws_toPlan (k : Nat) (a0 : Int) (a1 : Int) (a2 : Int) (a3 : Int) (a4 : Int) (a5 : Int) (a6 : Int) (a7 : Int) (a8 : Int) : go (k + 1) laws_toPlan [(.agg [(.int .i64 (a0)), (.int .i64 (a1)), (.int .i64 (a2)), (.int .i64 (a3)), (.int .i64 (a4)), (.int .i64 (a5)), (.int .i64 (a6)), (.int .i64 (a7)), (.int .i64 (a8))])] =
    (go k laws_toBorder [(.agg [(.int .i64 (a0)), (.int .i64 (a1)), (.int .i64 (a2))])]).bind fun r0 =>
  some [(.agg [(.int .i64 (D.toInt (D.cell 0 (nth r0 0)))), (.int .i64 (D.toInt (D.cell 1 (nth r0 0)))), (.int .i64 (D.toInt (D.cell 2 (nth r0 0)))), (.int .i64 (a3)), (.int .i64 (a4)), (.int .i64 (a5)), (.int .i64 (a6)), (.int .i64 (a7)), (.int .i64 (a8))])] := by kernel_rfl
theorem e_laws_toWorld (k : Nat) (a0 : Int) (a1z : Bool) (a1 : List (Int × Int × Int)) (a2z : Bool) (a2 : List Int) (a3z : Bool) (a3 : List Int) (a4z : Bool) (a4 : List Int) (a5 : Int) (a6 : Int) (a7 : Int) (a8 : Int) (a9 : Int) (a10 : Int) (a11 : Int) (a12 : Int) (a13 : Int) (a14 : Int) (a15 : Int) (a16 : Int) (a17 : Int) (a18 : Int) (a19 : Int) (a20 : Int) : go (k + 1) laws_toWorld [(.agg [(.int .i64 (a0)), (.arr false (a1z) (.r3 (a1))), (.arr false (a2z) (.ints .i64 (a2))), (.arr false (a3z) (.ints .i64 (a3))), (.arr false (a4z) (.ints .i64 (a4))), (.int .i64 (a5)), (.int .i64 (a6)), (.int .i64 (a7)), (.int .i64 (a8)), (.int .i64 (a9)), (.int .i64 (a10)), (.int .i64 (a11)), (.int .i64 (a12)), (.int .i64 (a13)), (.int .i64 (a14)), (.int .i64 (a15)), (.int .i64 (a16)), (.int .i64 (a17)), (.int .i64 (a18)), (.int .i64 (a19)), (.int .i64 (a20))])] =
    (go k laws_toState [(.agg [(.int .i64 (a0)), (.arr false (a1z) (.r3 (a1))), (.arr false (a2z) (.ints .i64 (a2))), (.arr false (a3z) (.ints .i64 (a3))), (.arr false (a4z) (.ints .i64 (a4)))])]).bind fun r0 =>
  (go k laws_toPlan [(.agg [(.int .i64 (a5)), (.int .i64 (a6)), (.int .i64 (a7)), (.int .i64 (a8)), (.int .i64 (a9)), (.int .i64 (a10)), (.int .i64 (a11)), (.int .i64 (a12)), (.int .i64 (a13))])]).bind fun r1 =>
  (go k laws_toLedger [(.agg [(.int .i64 (a15)), (.int .i64 (a16)), (.int .i64 (a17)), (.int .i64 (a18))])]).bind fun r2 =>
  some [(.agg [(.int .i64 (D.toInt (D.cell 0 (nth r0 0)))), (.arr true (D.nil (D.cell 1 (nth r0 0))) (.r3 (D.r3 (D.cell 1 (nth r0 0))))), (.arr true (D.nil (D.cell 2 (nth r0 0))) (.ints .i64 (D.ints (D.cell 2 (nth r0 0))))), (.arr true (D.nil (D.cell 3 (nth r0 0))) (.ints .i64 (D.ints (D.cell 3 (nth r0 0))))), (.arr true (D.nil (D.cell 4 (nth r0 0))) (.ints .i64 (D.ints (D.cell 4 (nth r0 0))))), (.int .i64 (D.toInt (D.cell 0 (nth r1 0)))), (.int .i64 (D.toInt (D.cell 1 (nth r1 0)))), (.int .i64 (D.toInt (D.cell 2 (nth r1 0)))), (.int .i64 (D.toInt (D.cell 3 (nth r1 0)))), (.int .i64 (D.toInt (D.cell 4 (nth r1 0)))), (.int .i64 (D.toInt (D.cell 5 (nth r1 0)))), (.int .i64 (D.toInt (D.cell 6 (nth r1 0)))), (.int .i64 (D.toInt (D.cell 7 (nth r1 0)))), (.int .i64 (D.toInt (D.cell 8 (nth r1 0)))), (.int .i64 (a14)), (.int .i64 (D.toInt (D.cell 0 (nth r2 0)))), (.int .i64 (D.toInt (D.cell 1 (nth r2 0)))), (.int .i64 (D.toInt (D.cell 2 (nth r2 0)))), (.int .i64 (D.toInt (D.cell 3 (nth r2 0)))), (.int .i64 (a19)), (.int .i64 (a20))])] := by kernel_rfl
theorem e_laws_szWorld (k : Nat) (a0 : Int) (a1z : Bool) (a1 : List (Int × Int × Int)) (a2z : Bool) (a2 : List Int) (a3z : Bool) (a3 : List Int) (a4z : Bool) (a4 : List Int) (a5 : Int) (a6 : Int) (a7 : Int) (a8 : Int) (a9 : Int) (a10 : Int) (a11 : Int) (a12 : Int) (a13 : Int) (a14 : Int) (a15 : Int) (a16 : Int) (a17 : Int) (a18 : Int) (a19 : Int) (a20 : Int) (b : Int) : go (k + 1) laws_szWorld [(.agg [(.int .i64 (a0)), (.arr false (a1z) (.r3 (a1))), (.arr false (a2z) (.ints .i64 (a2))), (.arr false (a3z) (.ints .i64 (a3))), (.arr false (a4z) (.ints .i64 (a4))), (.int .i64 (a5)), (.int .i64 (a6)), (.int .i64 (a7)), (.int .i64 (a8)), (.int .i64 (a9)), (.int .i64 (a10)), (.int .i64 (a11)), (.int .i64 (a12)), (.int .i64 (a13)), (.int .i64 (a14)), (.int .i64 (a15)), (.int .i64 (a16)), (.int .i64 (a17)), (.int .i64 (a18)), (.int .i64 (a19)), (.int .i64 (a20))]), (.int .i64 (b))] =
    (go k laws_szState [(.agg [(.int .i64 (a0)), (.arr false (a1z) (.r3 (a1))), (.arr false (a2z) (.ints .i64 (a2))), (.arr false (a3z) (.ints .i64 (a3))), (.arr false (a4z) (.ints .i64 (a4)))]), (.int .i64 (b))]).bind fun r0 =>
  cond (decide (D.toInt (nth r0 0) < (0 : Int)))
  (some [(.int .i64 ((-1 : Int)))])
  (some [(.int .i64 (D.toInt (nth r0 0)))]) := by kernel_rfl
theorem e_laws_eqBorder (k : Nat) (a0 : Int) (a1 : Int) (a2 : Int) (b0 : Int) (b1 : Int) (b2 : Int) : go (k + 1) laws_eqBorder [(.agg [(.int .i64 (a0)), (.int .i64 (a1)), (.int .i64 (a2))]), (.agg [(.int .i64 (b0)), (.int .i64 (b1)), (.int .i64 (b2))])] =
    cond (!decide (a0 = b0))
  (some [(.bool (false))])
  (cond (!decide (a1 = b1))
    (some [(.bool (false))])
    (cond (!decide (a2 = b2))
      (some [(.bool (false))])
      (some [(.bool (true))]))) := by kernel_rfl
theorem e_laws_eqPlan (k : Nat) (a0 : Int) (a1 : Int) (a2 : Int) (a3 : Int) (a4 : Int) (a5 : Int) (a6 : Int) (a7 : Int) (a8 : Int) (b0 : Int) (b1 : Int) (b2 : Int) (b3 : Int) (b4 : Int) (b5 : Int) (b6 : Int) (b7 : Int) (b8 : Int) : go (k + 1) laws_eqPlan [(.agg [(.int .i64 (a0)), (.int .i64 (a1)), (.int .i64 (a2)), (.int .i64 (a3)), (.int .i64 (a4)), (.int .i64 (a5)), (.int .i64 (a6)), (.int .i64 (a7)), (.int .i64 (a8))]), (.agg [(.int .i64 (b0)), (.int .i64 (b1)), (.int .i64 (b2)), (.int .i64 (b3)), (.int .i64 (b4)), (.int .i64 (b5)), (.int .i64 (b6)), (.int .i64 (b7)), (.int .i64 (b8))])] =
    (go k laws_eqBorder [(.agg [(.int .i64 (a0)), (.int .i64 (a1)), (.int .i64 (a2))]), (.agg [(.int .i64 (b0)), (.int .i64 (b1)), (.int .i64 (b2))])]).bind fun r0 =>
  cond (!bit (nth r0 0))
  (some [(.bool (false))])
  (cond (!decide (a3 = b3))
    (some [(.bool (false))])
    (cond (!decide (a4 = b4))
      (some [(.bool (false))])
      (cond (!decide (a5 = b5))
        (some [(.bool (false))])
        (cond (!decide (a6 = b6))
          (some [(.bool (false))])
          (cond (!decide (a7 = b7))
            (some [(.bool (false))])
            (cond (!decide (a8 = b8))
              (some [(.bool (false))])
              (some [(.bool (true))]))))))) := by kernel_rfl
theorem e_laws_eqLedger (k : Nat) (a0 : Int) (a1 : Int) (a2 : Int) (a3 : Int) (b0 : Int) (b1 : Int) (b2 : Int) (b3 : Int) : go (k + 1) laws_eqLedger [(.agg [(.int .i64 (a0)), (.int .i64 (a1)), (.int .i64 (a2)), (.int .i64 (a3))]), (.agg [(.int .i64 (b0)), (.int .i64 (b1)), (.int .i64 (b2)), (.int .i64 (b3))])] =
    cond (!decide (a0 = b0))
  (some [(.bool (false))])
  (cond (!decide (a1 = b1))
    (some [(.bool (false))])
    (cond (!decide (a2 = b2))
      (some [(.bool (false))])
      (cond (!decide (a3 = b3))
        (some [(.bool (false))])
        (some [(.bool (true))])))) := by kernel_rfl
theorem e_laws_eqWorld (k : Nat) (a0 : Int) (a1z : Bool) (a1 : List (Int × Int × Int)) (a2z : Bool) (a2 : List Int) (a3z : Bool) (a3 : List Int) (a4z : Bool) (a4 : List Int) (a5 : Int) (a6 : Int) (a7 : Int) (a8 : Int) (a9 : Int) (a10 : Int) (a11 : Int) (a12 : Int) (a13 : Int) (a14 : Int) (a15 : Int) (a16 : Int) (a17 : Int) (a18 : Int) (a19 : Int) (a20 : Int) (b0 : Int) (b1z : Bool) (b1 : List (Int × Int × Int)) (b2z : Bool) (b2 : List Int) (b3z : Bool) (b3 : List Int) (b4z : Bool) (b4 : List Int) (b5 : Int) (b6 : Int) (b7 : Int) (b8 : Int) (b9 : Int) (b10 : Int) (b11 : Int) (b12 : Int) (b13 : Int) (b14 : Int) (b15 : Int) (b16 : Int) (b17 : Int) (b18 : Int) (b19 : Int) (b20 : Int) : go (k + 1) laws_eqWorld [(.agg [(.int .i64 (a0)), (.arr false (a1z) (.r3 (a1))), (.arr false (a2z) (.ints .i64 (a2))), (.arr false (a3z) (.ints .i64 (a3))), (.arr false (a4z) (.ints .i64 (a4))), (.int .i64 (a5)), (.int .i64 (a6)), (.int .i64 (a7)), (.int .i64 (a8)), (.int .i64 (a9)), (.int .i64 (a10)), (.int .i64 (a11)), (.int .i64 (a12)), (.int .i64 (a13)), (.int .i64 (a14)), (.int .i64 (a15)), (.int .i64 (a16)), (.int .i64 (a17)), (.int .i64 (a18)), (.int .i64 (a19)), (.int .i64 (a20))]), (.agg [(.int .i64 (b0)), (.arr false (b1z) (.r3 (b1))), (.arr false (b2z) (.ints .i64 (b2))), (.arr false (b3z) (.ints .i64 (b3))), (.arr false (b4z) (.ints .i64 (b4))), (.int .i64 (b5)), (.int .i64 (b6)), (.int .i64 (b7)), (.int .i64 (b8)), (.int .i64 (b9)), (.int .i64 (b10)), (.int .i64 (b11)), (.int .i64 (b12)), (.int .i64 (b13)), (.int .i64 (b14)), (.int .i64 (b15)), (.int .i64 (b16)), (.int .i64 (b17)), (.int .i64 (b18)), (.int .i64 (b19)), (.int .i64 (b20))])] =
    (go k laws_eqState [(.agg [(.int .i64 (a0)), (.arr false (a1z) (.r3 (a1))), (.arr false (a2z) (.ints .i64 (a2))), (.arr false (a3z) (.ints .i64 (a3))), (.arr false (a4z) (.ints .i64 (a4)))]), (.agg [(.int .i64 (b0)), (.arr false (b1z) (.r3 (b1))), (.arr false (b2z) (.ints .i64 (b2))), (.arr false (b3z) (.ints .i64 (b3))), (.arr false (b4z) (.ints .i64 (b4)))])]).bind fun r0 =>
  cond (!bit (nth r0 0))
  (some [(.bool (false))])
  ((go k laws_eqPlan [(.agg [(.int .i64 (a5)), (.int .i64 (a6)), (.int .i64 (a7)), (.int .i64 (a8)), (.int .i64 (a9)), (.int .i64 (a10)), (.int .i64 (a11)), (.int .i64 (a12)), (.int .i64 (a13))]), (.agg [(.int .i64 (b5)), (.int .i64 (b6)), (.int .i64 (b7)), (.int .i64 (b8)), (.int .i64 (b9)), (.int .i64 (b10)), (.int .i64 (b11)), (.int .i64 (b12)), (.int .i64 (b13))])]).bind fun r1 =>
    cond (!bit (nth r1 0))
    (some [(.bool (false))])
    (cond (!decide (a14 = b14))
      (some [(.bool (false))])
      ((go k laws_eqLedger [(.agg [(.int .i64 (a15)), (.int .i64 (a16)), (.int .i64 (a17)), (.int .i64 (a18))]), (.agg [(.int .i64 (b15)), (.int .i64 (b16)), (.int .i64 (b17)), (.int .i64 (b18))])]).bind fun r2 =>
        cond (!bit (nth r2 0))
        (some [(.bool (false))])
        (cond (!decide (a19 = b19))
          (some [(.bool (false))])
          (cond (!decide (a20 = b20))
            (some [(.bool (false))])
            (some [(.bool (true))])))))) := by kernel_rfl
theorem e_laws_markWorld (k : Nat) (a0 : Int) (a1z : Bool) (a1 : List (Int × Int × Int)) (a2z : Bool) (a2 : List Int) (a3z : Bool) (a3 : List Int) (a4z : Bool) (a4 : List Int) (a5 : Int) (a6 : Int) (a7 : Int) (a8 : Int) (a9 : Int) (a10 : Int) (a11 : Int) (a12 : Int) (a13 : Int) (a14 : Int) (a15 : Int) (a16 : Int) (a17 : Int) (a18 : Int) (a19 : Int) (a20 : Int) (b : Int) : go (k + 1) laws_markWorld [(.agg [(.int .i64 (a0)), (.arr true (a1z) (.r3 (a1))), (.arr true (a2z) (.ints .i64 (a2))), (.arr true (a3z) (.ints .i64 (a3))), (.arr true (a4z) (.ints .i64 (a4))), (.int .i64 (a5)), (.int .i64 (a6)), (.int .i64 (a7)), (.int .i64 (a8)), (.int .i64 (a9)), (.int .i64 (a10)), (.int .i64 (a11)), (.int .i64 (a12)), (.int .i64 (a13)), (.int .i64 (a14)), (.int .i64 (a15)), (.int .i64 (a16)), (.int .i64 (a17)), (.int .i64 (a18)), (.int .i64 (a19)), (.int .i64 (a20))]), (.int .i64 (b))] =
    (go k laws_markState [(.agg [(.int .i64 (a0)), (.arr true (a1z) (.r3 (a1))), (.arr true (a2z) (.ints .i64 (a2))), (.arr true (a3z) (.ints .i64 (a3))), (.arr true (a4z) (.ints .i64 (a4)))]), (.int .i64 (b))]).bind fun r0 =>
  some [(.int .i64 (D.toInt (nth r0 0))), (.agg [(.int .i64 (a0)), (.arr true (a1z) (.r3 (D.r3 (D.cell 1 (nth r0 1))))), (.arr true (a2z) (.ints .i64 (D.ints (D.cell 2 (nth r0 1))))), (.arr true (a3z) (.ints .i64 (D.ints (D.cell 3 (nth r0 1))))), (.arr true (a4z) (.ints .i64 (D.ints (D.cell 4 (nth r0 1))))), (.int .i64 (a5)), (.int .i64 (a6)), (.int .i64 (a7)), (.int .i64 (a8)), (.int .i64 (a9)), (.int .i64 (a10)), (.int .i64 (a11)), (.int .i64 (a12)), (.int .i64 (a13)), (.int .i64 (a14)), (.int .i64 (a15)), (.int .i64 (a16)), (.int .i64 (a17)), (.int .i64 (a18)), (.int .i64 (a19)), (.int .i64 (a20))])] := by kernel_rfl
theorem e_laws_heldWorld (k : Nat) (a0 : Int) (a1z : Bool) (a1 : List (Int × Int × Int)) (a2z : Bool) (a2 : List Int) (a3z : Bool) (a3 : List Int) (a4z : Bool) (a4 : List Int) (a5 : Int) (a6 : Int) (a7 : Int) (a8 : Int) (a9 : Int) (a10 : Int) (a11 : Int) (a12 : Int) (a13 : Int) (a14 : Int) (a15 : Int) (a16 : Int) (a17 : Int) (a18 : Int) (a19 : Int) (a20 : Int) (b : Int) : go (k + 1) laws_heldWorld [(.agg [(.int .i64 (a0)), (.arr false (a1z) (.r3 (a1))), (.arr false (a2z) (.ints .i64 (a2))), (.arr false (a3z) (.ints .i64 (a3))), (.arr false (a4z) (.ints .i64 (a4))), (.int .i64 (a5)), (.int .i64 (a6)), (.int .i64 (a7)), (.int .i64 (a8)), (.int .i64 (a9)), (.int .i64 (a10)), (.int .i64 (a11)), (.int .i64 (a12)), (.int .i64 (a13)), (.int .i64 (a14)), (.int .i64 (a15)), (.int .i64 (a16)), (.int .i64 (a17)), (.int .i64 (a18)), (.int .i64 (a19)), (.int .i64 (a20))]), (.int .i64 (b))] =
    (go k laws_heldState [(.agg [(.int .i64 (a0)), (.arr false (a1z) (.r3 (a1))), (.arr false (a2z) (.ints .i64 (a2))), (.arr false (a3z) (.ints .i64 (a3))), (.arr false (a4z) (.ints .i64 (a4)))]), (.int .i64 (b))]).bind fun r0 =>
  cond (decide (D.toInt (nth r0 0) < (0 : Int)))
  (some [(.int .i64 ((-1 : Int)))])
  (some [(.int .i64 (D.toInt (nth r0 0)))]) := by kernel_rfl

end Go.Proofs.Ytfgccfajhedgdaa
