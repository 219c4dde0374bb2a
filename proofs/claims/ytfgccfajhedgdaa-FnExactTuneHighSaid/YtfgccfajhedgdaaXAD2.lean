/- Adapting, one step each. -/
import Derived.Test.YtfgccfajhedgdaaXA
namespace Go.Proofs.Ytfgccfajhedgdaa
open Go.Ev
set_option linter.unusedVariables false
def s_impl_State_balance_1 (x0 : Int) (z1 : Bool) (l2 : List (Int × Int × Int)) (z3 : Bool) (l4 : List Int) (z5 : Bool) (l6 : List Int) (z7 : Bool) (l8 : List Int) (x9 : Int) : St := ⟨fill 18 [(0, (.ptr 4 (0) (0))), (2, (.int .i64 (x0)))], [(.ptr 4 (0) (0))], [(.arr true (z1) (.r3 (l2))), (.arr true (z3) (.ints .i64 (l4))), (.arr true (z5) (.ints .i64 (l6))), (.arr true (z7) (.ints .i64 (l8))), (.box true [(.int .i64 (x9)), (.sl 0 none), (.sl 1 none), (.sl 2 none), (.sl 3 none)])]⟩
theorem e_impl_State_balance (k : Nat) (a0 : Int) (a1z : Bool) (a1 : List (Int × Int × Int)) (a2z : Bool) (a2 : List Int) (a3z : Bool) (a3 : List Int) (a4z : Bool) (a4 : List Int) : go (k + 1) impl_State_balance [(.ptr true [(.int .i64 (a0)), (.arr true (a1z) (.r3 (a1))), (.arr true (a2z) (.ints .i64 (a2))), (.arr true (a3z) (.ints .i64 (a3))), (.arr true (a4z) (.ints .i64 (a4)))])] =
    (go k impl_Mesh_toRefine [(.agg [(.int .i64 (a0)), (.arr false (a1z) (.r3 (a1)))])]).bind fun r0 =>
  lp k impl_State_balance [(.ptr true [(.int .i64 (a0)), (.arr true (a1z) (.r3 (a1))), (.arr true (a2z) (.ints .i64 (a2))), (.arr true (a3z) (.ints .i64 (a3))), (.arr true (a4z) (.ints .i64 (a4)))])] [] 1 k (s_impl_State_balance_1 (D.toInt (nth r0 0)) a1z a1 a2z a2 a3z a3 a4z a4 a0) := by kernel_rfl
theorem l_impl_State_balance_1 (k n : Nat) (fu : List (Nat × Nat)) (a0 : Int) (a1z : Bool) (a1 : List (Int × Int × Int)) (a2z : Bool) (a2 : List Int) (a3z : Bool) (a3 : List Int) (a4z : Bool) (a4 : List Int) (x0 : Int) (z1 : Bool) (l2 : List (Int × Int × Int)) (z3 : Bool) (l4 : List Int) (z5 : Bool) (l6 : List Int) (z7 : Bool) (l8 : List Int) (x9 : Int) : lp k impl_State_balance [(.ptr true [(.int .i64 (a0)), (.arr true (a1z) (.r3 (a1))), (.arr true (a2z) (.ints .i64 (a2))), (.arr true (a3z) (.ints .i64 (a3))), (.arr true (a4z) (.ints .i64 (a4)))])] fu 1 (n + 1) (s_impl_State_balance_1 x0 z1 l2 z3 l4 z5 l6 z7 l8 x9) =
    cond (decide ((0 : Int) ≤ x0))
  ((go k impl_State_refine [(.ptr true [(.int .i64 (x9)), (.arr true (z1) (.r3 (l2))), (.arr true (z3) (.ints .i64 (l4))), (.arr true (z5) (.ints .i64 (l6))), (.arr true (z7) (.ints .i64 (l8)))]), (.int .i64 (x0))]).bind fun r0 =>
    (go k impl_Mesh_toRefine [(.agg [(.int .i64 (D.toInt (D.cell 0 (nth r0 0)))), (.arr false (D.nil (D.cell 1 (nth r0 0))) (.r3 (D.r3 (D.cell 1 (nth r0 0)))))])]).bind fun r1 =>
    lp k impl_State_balance [(.ptr true [(.int .i64 (a0)), (.arr true (a1z) (.r3 (a1))), (.arr true (a2z) (.ints .i64 (a2))), (.arr true (a3z) (.ints .i64 (a3))), (.arr true (a4z) (.ints .i64 (a4)))])] fu 1 n (s_impl_State_balance_1 (D.toInt (nth r1 0)) (D.nil (D.cell 1 (nth r0 0))) (D.r3 (D.cell 1 (nth r0 0))) (D.nil (D.cell 2 (nth r0 0))) (D.ints (D.cell 2 (nth r0 0))) (D.nil (D.cell 3 (nth r0 0))) (D.ints (D.cell 3 (nth r0 0))) (D.nil (D.cell 4 (nth r0 0))) (D.ints (D.cell 4 (nth r0 0))) (D.toInt (D.cell 0 (nth r0 0)))))
  (some [(.ptr true [(.int .i64 (x9)), (.arr true (z1) (.r3 (l2))), (.arr true (z3) (.ints .i64 (l4))), (.arr true (z5) (.ints .i64 (l6))), (.arr true (z7) (.ints .i64 (l8)))])]) := by kernel_rfl
def s_spec_l08Level_2 (x0 : Int) (z1 : Bool) (l2 : List (Int × Int × Int)) (z3 : Bool) (l4 : List Int) (z5 : Bool) (l6 : List Int) (z7 : Bool) (l8 : List Int) (x9 : Int) (z10 : Bool) (l11 : List (Int × Int × Int)) (z12 : Bool) (l13 : List Int) (z14 : Bool) (l15 : List Int) (z16 : Bool) (l17 : List Int) (x18 : Int) : St := ⟨fill 19 [(1, (.ptr 4 (0) (0))), (2, (.ptr 9 (0) (0))), (3, (.int .i64 (x0)))], [], [(.arr true (z1) (.r3 (l2))), (.arr true (z3) (.ints .i64 (l4))), (.arr true (z5) (.ints .i64 (l6))), (.arr true (z7) (.ints .i64 (l8))), (.box true [(.int .i64 (x9)), (.sl 0 none), (.sl 1 none), (.sl 2 none), (.sl 3 none)]), (.arr true (z10) (.r3 (l11))), (.arr true (z12) (.ints .i64 (l13))), (.arr true (z14) (.ints .i64 (l15))), (.arr true (z16) (.ints .i64 (l17))), (.box true [(.int .i64 (x18)), (.sl 5 none), (.sl 6 none), (.sl 7 none), (.sl 8 none)])]⟩
def s_spec_l08Level_2b (x0 : Int) (z1 : Bool) (l2 : List (Int × Int × Int)) (z3 : Bool) (l4 : List Int) (z5 : Bool) (l6 : List Int) (z7 : Bool) (l8 : List Int) (x9 : Int) (z10 : Bool) (l11 : List (Int × Int × Int)) (z12 : Bool) (l13 : List Int) (z14 : Bool) (l15 : List Int) (z16 : Bool) (l17 : List Int) (x18 : Int) : St := ⟨fill 19 [(1, (.ptr 4 (0) (0))), (2, (.ptr 9 (0) (0))), (3, (.int .i64 (x0)))], [], [(.arr true (z1) (.r3 (l2))), (.arr true (z3) (.ints .i64 (l4))), (.arr true (z5) (.ints .i64 (l6))), (.arr true (z7) (.ints .i64 (l8))), (.box true [(.int .i64 (x9)), (.sl 0 none), (.sl 1 none), (.sl 2 none), (.sl 3 none)]), (.arr true (z10) (.r3 (l11))), (.arr true (z12) (.ints .i64 (l13))), (.arr true (z14) (.ints .i64 (l15))), (.arr true (z16) (.ints .i64 (l17))), (.box true [(.int .i64 (x18)), (.sl 5 none), (.sl 6 none), (.sl 7 none), (.sl 8 none)])]⟩
theorem e_spec_l08Level (k : Nat) (a0 : Int) (a1z : Bool) (a1 : List (Int × Int × Int)) (a2z : Bool) (a2 : List Int) (a3z : Bool) (a3 : List Int) (a4z : Bool) (a4 : List Int) : go (k + 1) spec_l08Level [(.agg [(.int .i64 (a0)), (.arr true (a1z) (.r3 (a1))), (.arr true (a2z) (.ints .i64 (a2))), (.arr true (a3z) (.ints .i64 (a3))), (.arr true (a4z) (.ints .i64 (a4)))])] =
    (go k spec_l05First [(.agg [(.int .i64 (a0)), (.arr false (a1z) (.r3 (a1)))])]).bind fun r0 =>
  lp k spec_l08Level [] [] 2 k (s_spec_l08Level_2 (D.toInt (nth r0 0)) a1z a1 a2z a2 a3z a3 a4z a4 a0 true ([]) true ([]) true ([]) true ([]) ((0 : Int))) := by kernel_rfl
theorem l_spec_l08Level_2 (k n : Nat) (fu : List (Nat × Nat)) (x0 : Int) (z1 : Bool) (l2 : List (Int × Int × Int)) (z3 : Bool) (l4 : List Int) (z5 : Bool) (l6 : List Int) (z7 : Bool) (l8 : List Int) (x9 : Int) (z10 : Bool) (l11 : List (Int × Int × Int)) (z12 : Bool) (l13 : List Int) (z14 : Bool) (l15 : List Int) (z16 : Bool) (l17 : List Int) (x18 : Int) : lp k spec_l08Level [] fu 2 (n + 1) (s_spec_l08Level_2 x0 z1 l2 z3 l4 z5 l6 z7 l8 x9 z10 l11 z12 l13 z14 l15 z16 l17 x18) =
    cond (decide ((0 : Int) ≤ x0))
  ((go k spec_l05Coarser [(.agg [(.int .i64 (x9)), (.arr false (z1) (.r3 (l2)))]), (.int .i64 (x0))]).bind fun r0 =>
    (go k spec_l08Split [(.agg [(.int .i64 (x9)), (.arr false (z1) (.r3 (l2))), (.arr false (z3) (.ints .i64 (l4))), (.arr false (z5) (.ints .i64 (l6))), (.arr false (z7) (.ints .i64 (l8)))]), (.int .i64 (D.toInt (nth r0 0)))]).bind fun r1 =>
    (go k spec_l05First [(.agg [(.int .i64 (D.toInt (D.cell 0 (nth r1 0)))), (.arr false (D.nil (D.cell 1 (nth r1 0))) (.r3 (D.r3 (D.cell 1 (nth r1 0)))))])]).bind fun r2 =>
    lp k spec_l08Level [] fu 2 n (s_spec_l08Level_2 (D.toInt (nth r2 0)) (D.nil (D.cell 1 (nth r1 0))) (D.r3 (D.cell 1 (nth r1 0))) (D.nil (D.cell 2 (nth r1 0))) (D.ints (D.cell 2 (nth r1 0))) (D.nil (D.cell 3 (nth r1 0))) (D.ints (D.cell 3 (nth r1 0))) (D.nil (D.cell 4 (nth r1 0))) (D.ints (D.cell 4 (nth r1 0))) (D.toInt (D.cell 0 (nth r1 0))) z10 l11 z12 l13 z14 l15 z16 l17 x18))
  (some [(.agg [(.int .i64 (x9)), (.arr true (z1) (.r3 (l2))), (.arr true (z3) (.ints .i64 (l4))), (.arr true (z5) (.ints .i64 (l6))), (.arr true (z7) (.ints .i64 (l8)))])]) := by kernel_rfl
theorem l_spec_l08Level_2b (k n : Nat) (fu : List (Nat × Nat)) (x0 : Int) (z1 : Bool) (l2 : List (Int × Int × Int)) (z3 : Bool) (l4 : List Int) (z5 : Bool) (l6 : List Int) (z7 : Bool) (l8 : List Int) (x9 : Int) (z10 : Bool) (l11 : List (Int × Int × Int)) (z12 : Bool) (l13 : List Int) (z14 : Bool) (l15 : List Int) (z16 : Bool) (l17 : List Int) (x18 : Int) : lp k spec_l08Level [] fu 2 (n + 1) (s_spec_l08Level_2 x0 z1 l2 z3 l4 z5 l6 z7 l8 x9 z10 l11 z12 l13 z14 l15 z16 l17 x18) =
    cond (decide ((0 : Int) ≤ x0))
  ((go k spec_l05Coarser [(.agg [(.int .i64 (x9)), (.arr false (z1) (.r3 (l2)))]), (.int .i64 (x0))]).bind fun r0 =>
    (go k spec_l08Split [(.agg [(.int .i64 (x9)), (.arr false (z1) (.r3 (l2))), (.arr false (z3) (.ints .i64 (l4))), (.arr false (z5) (.ints .i64 (l6))), (.arr false (z7) (.ints .i64 (l8)))]), (.int .i64 (D.toInt (nth r0 0)))]).bind fun r1 =>
    (go k spec_l05First [(.agg [(.int .i64 (D.toInt (D.cell 0 (nth r1 0)))), (.arr false (D.nil (D.cell 1 (nth r1 0))) (.r3 (D.r3 (D.cell 1 (nth r1 0)))))])]).bind fun r2 =>
    lp k spec_l08Level [] fu 2 n (s_spec_l08Level_2 (D.toInt (nth r2 0)) (D.nil (D.cell 1 (nth r1 0))) (D.r3 (D.cell 1 (nth r1 0))) (D.nil (D.cell 2 (nth r1 0))) (D.ints (D.cell 2 (nth r1 0))) (D.nil (D.cell 3 (nth r1 0))) (D.ints (D.cell 3 (nth r1 0))) (D.nil (D.cell 4 (nth r1 0))) (D.ints (D.cell 4 (nth r1 0))) (D.toInt (D.cell 0 (nth r1 0))) z10 l11 z12 l13 z14 l15 z16 l17 x18))
  (some [(.agg [(.int .i64 (x9)), (.arr true (z1) (.r3 (l2))), (.arr true (z3) (.ints .i64 (l4))), (.arr true (z5) (.ints .i64 (l6))), (.arr true (z7) (.ints .i64 (l8)))])]) := by kernel_rfl
def s_spec_l17Adapt_10 (x0 : Int) (z1 : Bool) (l2 : List (Int × Int × Int)) (z3 : Bool) (l4 : List Int) (z5 : Bool) (l6 : List Int) (z7 : Bool) (l8 : List Int) (x9 : Int) (z10 : Bool) (l11 : List (Int × Int × Int)) (z12 : Bool) (l13 : List Int) (z14 : Bool) (l15 : List Int) (z16 : Bool) (l17 : List Int) (x18 : Int) (z19 : Bool) (l20 : List Int) (z21 : Bool) (l22 : List (Int × Int × Int)) (z23 : Bool) (l24 : List Int) (z25 : Bool) (l26 : List Int) (z27 : Bool) (l28 : List Int) (x29 : Int) : St := ⟨fill 93 [(3, (.ptr 4 (0) (0))), (6, (.ptr 9 (0) (0))), (7, (.sl 10 none)), (8, (.ptr 15 (0) (0))), (10, (.int .i64 (x0)))], [], [(.arr false (z1) (.r3 (l2))), (.arr false (z3) (.ints .i64 (l4))), (.arr false (z5) (.ints .i64 (l6))), (.arr false (z7) (.ints .i64 (l8))), (.box true [(.int .i64 (x9)), (.sl 0 none), (.sl 1 none), (.sl 2 none), (.sl 3 none)]), (.arr true (z10) (.r3 (l11))), (.arr true (z12) (.ints .i64 (l13))), (.arr true (z14) (.ints .i64 (l15))), (.arr true (z16) (.ints .i64 (l17))), (.box true [(.int .i64 (x18)), (.sl 5 none), (.sl 6 none), (.sl 7 none), (.sl 8 none)]), (.arr true (z19) (.ints .i64 (l20))), (.arr true (z21) (.r3 (l22))), (.arr true (z23) (.ints .i64 (l24))), (.arr true (z25) (.ints .i64 (l26))), (.arr true (z27) (.ints .i64 (l28))), (.box true [(.int .i64 (x29)), (.sl 11 none), (.sl 12 none), (.sl 13 none), (.sl 14 none)])]⟩
def s_spec_l17Adapt_4 (x0 : Int) (z1 : Bool) (l2 : List (Int × Int × Int)) (z3 : Bool) (l4 : List Int) (z5 : Bool) (l6 : List Int) (z7 : Bool) (l8 : List Int) (x9 : Int) (z10 : Bool) (l11 : List (Int × Int × Int)) (z12 : Bool) (l13 : List Int) (z14 : Bool) (l15 : List Int) (z16 : Bool) (l17 : List Int) (x18 : Int) (z19 : Bool) (l20 : List Int) (z21 : Bool) (l22 : List (Int × Int × Int)) (z23 : Bool) (l24 : List Int) (z25 : Bool) (l26 : List Int) (z27 : Bool) (l28 : List Int) (x29 : Int) : St := ⟨fill 93 [(3, (.ptr 4 (0) (0))), (6, (.ptr 9 (0) (0))), (7, (.sl 10 none)), (8, (.ptr 15 (0) (0))), (9, (.int .i64 (x0)))], [], [(.arr false (z1) (.r3 (l2))), (.arr false (z3) (.ints .i64 (l4))), (.arr false (z5) (.ints .i64 (l6))), (.arr false (z7) (.ints .i64 (l8))), (.box true [(.int .i64 (x9)), (.sl 0 none), (.sl 1 none), (.sl 2 none), (.sl 3 none)]), (.arr true (z10) (.r3 (l11))), (.arr true (z12) (.ints .i64 (l13))), (.arr true (z14) (.ints .i64 (l15))), (.arr true (z16) (.ints .i64 (l17))), (.box true [(.int .i64 (x18)), (.sl 5 none), (.sl 6 none), (.sl 7 none), (.sl 8 none)]), (.arr true (z19) (.ints .i64 (l20))), (.arr true (z21) (.r3 (l22))), (.arr true (z23) (.ints .i64 (l24))), (.arr true (z25) (.ints .i64 (l26))), (.arr true (z27) (.ints .i64 (l28))), (.box true [(.int .i64 (x29)), (.sl 11 none), (.sl 12 none), (.sl 13 none), (.sl 14 none)])]⟩
theorem e_spec_l17Adapt (k : Nat) (a0 : Int) (a1z : Bool) (a1 : List (Int × Int × Int)) (a2z : Bool) (a2 : List Int) (a3z : Bool) (a3 : List Int) (a4z : Bool) (a4 : List Int) (b : Int) (c : Int) : go (k + 1) spec_l17Adapt [(.agg [(.int .i64 (a0)), (.arr false (a1z) (.r3 (a1))), (.arr false (a2z) (.ints .i64 (a2))), (.arr false (a3z) (.ints .i64 (a3))), (.arr false (a4z) (.ints .i64 (a4)))]), (.int .i64 (b)), (.int .i64 (c))] =
    (go k spec_l16Wishes [(.agg [(.int .i64 (a0)), (.arr false (a1z) (.r3 (a1))), (.arr false (a2z) (.ints .i64 (a2))), (.arr false (a3z) (.ints .i64 (a3))), (.arr false (a4z) (.ints .i64 (a4)))]), (.int .i64 (b)), (.int .i64 (c))]).bind fun r0 =>
  (go k spec_l07Copy [(.agg [(.int .i64 (a0)), (.arr false (a1z) (.r3 (a1))), (.arr false (a2z) (.ints .i64 (a2))), (.arr false (a3z) (.ints .i64 (a3))), (.arr false (a4z) (.ints .i64 (a4)))])]).bind fun r1 =>
  lp k spec_l17Adapt [] [] 4 k (s_spec_l17Adapt_4 (IntKind.wrap .i64 (nI (List.length (D.ints (nth r0 0))) - (1 : Int))) a1z a1 a2z a2 a3z a3 a4z a4 a0 true ([]) true ([]) true ([]) true ([]) ((0 : Int)) (D.nil (nth r0 0)) (D.ints (nth r0 0)) (D.nil (D.cell 1 (nth r1 0))) (D.r3 (D.cell 1 (nth r1 0))) (D.nil (D.cell 2 (nth r1 0))) (D.ints (D.cell 2 (nth r1 0))) (D.nil (D.cell 3 (nth r1 0))) (D.ints (D.cell 3 (nth r1 0))) (D.nil (D.cell 4 (nth r1 0))) (D.ints (D.cell 4 (nth r1 0))) (D.toInt (D.cell 0 (nth r1 0)))) := by kernel_rfl
theorem l_spec_l17Adapt_10 (k n : Nat) (fu : List (Nat × Nat)) (x0 : Int) (z1 : Bool) (l2 : List (Int × Int × Int)) (z3 : Bool) (l4 : List Int) (z5 : Bool) (l6 : List Int) (z7 : Bool) (l8 : List Int) (x9 : Int) (z10 : Bool) (l11 : List (Int × Int × Int)) (z12 : Bool) (l13 : List Int) (z14 : Bool) (l15 : List Int) (z16 : Bool) (l17 : List Int) (x18 : Int) (z19 : Bool) (l20 : List Int) (z21 : Bool) (l22 : List (Int × Int × Int)) (z23 : Bool) (l24 : List Int) (z25 : Bool) (l26 : List Int) (z27 : Bool) (l28 : List Int) (x29 : Int) : lp k spec_l17Adapt [] fu 10 (n + 1) (s_spec_l17Adapt_10 x0 z1 l2 z3 l4 z5 l6 z7 l8 x9 z10 l11 z12 l13 z14 l15 z16 l17 x18 z19 l20 z21 l22 z23 l24 z25 l26 z27 l28 x29) =
    cond (decide (IntKind.wrap .i64 (x0 + (1 : Int)) < nI (List.length l24)))
  (cond (decide ((0 : Int) ≤ x0) && decide (x0 < nI (List.length l22)))
    ((go k spec_LeafOf [(.agg [(.int .i64 (x9)), (.arr false (z1) (.r3 (l2)))]), (.agg [(.int .i64 (Prod.fst (List.getD l22 (Int.toNat x0) zz3))), (.int .i64 (Prod.fst (Prod.snd (List.getD l22 (Int.toNat x0) zz3)))), (.int .i64 (Prod.snd (Prod.snd (List.getD l22 (Int.toNat x0) zz3))))])]).bind fun r0 =>
      cond (decide ((0 : Int) ≤ IntKind.wrap .i64 (x0 + (1 : Int))) && decide (IntKind.wrap .i64 (x0 + (1 : Int)) < nI (List.length l22)))
      ((go k spec_LeafOf [(.agg [(.int .i64 (x9)), (.arr false (z1) (.r3 (l2)))]), (.agg [(.int .i64 (Prod.fst (List.getD l22 (Int.toNat (IntKind.wrap .i64 (x0 + (1 : Int)))) zz3))), (.int .i64 (Prod.fst (Prod.snd (List.getD l22 (Int.toNat (IntKind.wrap .i64 (x0 + (1 : Int)))) zz3)))), (.int .i64 (Prod.snd (Prod.snd (List.getD l22 (Int.toNat (IntKind.wrap .i64 (x0 + (1 : Int)))) zz3))))])]).bind fun r1 =>
        cond (decide ((0 : Int) ≤ D.toInt (nth r0 0)))
        (cond (decide ((0 : Int) ≤ D.toInt (nth r1 0)))
          (cond (decide ((0 : Int) ≤ D.toInt (nth r0 0)) && decide (D.toInt (nth r0 0) < nI (List.length l20)))
            (cond (decide (List.getD l20 (Int.toNat (D.toInt (nth r0 0))) (0 : Int) = (-1 : Int)))
              (cond (decide ((0 : Int) ≤ D.toInt (nth r1 0)) && decide (D.toInt (nth r1 0) < nI (List.length l20)))
                (cond (decide (List.getD l20 (Int.toNat (D.toInt (nth r1 0))) (0 : Int) = (-1 : Int)))
                  ((go k spec_l06May [(.agg [(.int .i64 (x29)), (.arr false (z21) (.r3 (l22)))]), (.int .i64 (x0))]).bind fun r2 =>
                    cond (bit (nth r2 0))
                    ((go k spec_l08Merge [(.agg [(.int .i64 (x29)), (.arr false (z21) (.r3 (l22))), (.arr false (z23) (.ints .i64 (l24))), (.arr false (z25) (.ints .i64 (l26))), (.arr false (z27) (.ints .i64 (l28)))]), (.int .i64 (x0))]).bind fun r3 =>
                      lp k spec_l17Adapt [] fu 10 n (s_spec_l17Adapt_10 (IntKind.wrap .i64 (x0 + (1 : Int))) z1 l2 z3 l4 z5 l6 z7 l8 x9 z10 l11 z12 l13 z14 l15 z16 l17 x18 z19 l20 (D.nil (D.cell 1 (nth r3 0))) (D.r3 (D.cell 1 (nth r3 0))) (D.nil (D.cell 2 (nth r3 0))) (D.ints (D.cell 2 (nth r3 0))) (D.nil (D.cell 3 (nth r3 0))) (D.ints (D.cell 3 (nth r3 0))) (D.nil (D.cell 4 (nth r3 0))) (D.ints (D.cell 4 (nth r3 0))) (D.toInt (D.cell 0 (nth r3 0)))))
                    (lp k spec_l17Adapt [] fu 10 n (s_spec_l17Adapt_10 (IntKind.wrap .i64 (x0 + (1 : Int))) z1 l2 z3 l4 z5 l6 z7 l8 x9 z10 l11 z12 l13 z14 l15 z16 l17 x18 z19 l20 z21 l22 z23 l24 z25 l26 z27 l28 x29)))
                  (lp k spec_l17Adapt [] fu 10 n (s_spec_l17Adapt_10 (IntKind.wrap .i64 (x0 + (1 : Int))) z1 l2 z3 l4 z5 l6 z7 l8 x9 z10 l11 z12 l13 z14 l15 z16 l17 x18 z19 l20 z21 l22 z23 l24 z25 l26 z27 l28 x29)))
                (none))
              (lp k spec_l17Adapt [] fu 10 n (s_spec_l17Adapt_10 (IntKind.wrap .i64 (x0 + (1 : Int))) z1 l2 z3 l4 z5 l6 z7 l8 x9 z10 l11 z12 l13 z14 l15 z16 l17 x18 z19 l20 z21 l22 z23 l24 z25 l26 z27 l28 x29)))
            (none))
          (lp k spec_l17Adapt [] fu 10 n (s_spec_l17Adapt_10 (IntKind.wrap .i64 (x0 + (1 : Int))) z1 l2 z3 l4 z5 l6 z7 l8 x9 z10 l11 z12 l13 z14 l15 z16 l17 x18 z19 l20 z21 l22 z23 l24 z25 l26 z27 l28 x29)))
        (lp k spec_l17Adapt [] fu 10 n (s_spec_l17Adapt_10 (IntKind.wrap .i64 (x0 + (1 : Int))) z1 l2 z3 l4 z5 l6 z7 l8 x9 z10 l11 z12 l13 z14 l15 z16 l17 x18 z19 l20 z21 l22 z23 l24 z25 l26 z27 l28 x29)))
      (none))
    (none))
  (some [(.agg [(.int .i64 (x29)), (.arr true (z21) (.r3 (l22))), (.arr true (z23) (.ints .i64 (l24))), (.arr true (z25) (.ints .i64 (l26))), (.arr true (z27) (.ints .i64 (l28)))])]) := by kernel_rfl
theorem l_spec_l17Adapt_4 (k n : Nat) (fu : List (Nat × Nat)) (x0 : Int) (z1 : Bool) (l2 : List (Int × Int × Int)) (z3 : Bool) (l4 : List Int) (z5 : Bool) (l6 : List Int) (z7 : Bool) (l8 : List Int) (x9 : Int) (z10 : Bool) (l11 : List (Int × Int × Int)) (z12 : Bool) (l13 : List Int) (z14 : Bool) (l15 : List Int) (z16 : Bool) (l17 : List Int) (x18 : Int) (z19 : Bool) (l20 : List Int) (z21 : Bool) (l22 : List (Int × Int × Int)) (z23 : Bool) (l24 : List Int) (z25 : Bool) (l26 : List Int) (z27 : Bool) (l28 : List Int) (x29 : Int) : lp k spec_l17Adapt [] fu 4 (n + 1) (s_spec_l17Adapt_4 x0 z1 l2 z3 l4 z5 l6 z7 l8 x9 z10 l11 z12 l13 z14 l15 z16 l17 x18 z19 l20 z21 l22 z23 l24 z25 l26 z27 l28 x29) =
    cond (decide ((0 : Int) ≤ x0))
  (cond (decide ((0 : Int) ≤ x0) && decide (x0 < nI (List.length l20)))
    (cond (decide (List.getD l20 (Int.toNat x0) (0 : Int) = (1 : Int)))
      ((go k spec_l08Split [(.agg [(.int .i64 (x29)), (.arr false (z21) (.r3 (l22))), (.arr false (z23) (.ints .i64 (l24))), (.arr false (z25) (.ints .i64 (l26))), (.arr false (z27) (.ints .i64 (l28)))]), (.int .i64 (x0))]).bind fun r0 =>
        lp k spec_l17Adapt [] fu 4 n (s_spec_l17Adapt_4 (IntKind.wrap .i64 (x0 - (1 : Int))) z1 l2 z3 l4 z5 l6 z7 l8 x9 z10 l11 z12 l13 z14 l15 z16 l17 x18 z19 l20 (D.nil (D.cell 1 (nth r0 0))) (D.r3 (D.cell 1 (nth r0 0))) (D.nil (D.cell 2 (nth r0 0))) (D.ints (D.cell 2 (nth r0 0))) (D.nil (D.cell 3 (nth r0 0))) (D.ints (D.cell 3 (nth r0 0))) (D.nil (D.cell 4 (nth r0 0))) (D.ints (D.cell 4 (nth r0 0))) (D.toInt (D.cell 0 (nth r0 0)))))
      (lp k spec_l17Adapt [] fu 4 n (s_spec_l17Adapt_4 (IntKind.wrap .i64 (x0 - (1 : Int))) z1 l2 z3 l4 z5 l6 z7 l8 x9 z10 l11 z12 l13 z14 l15 z16 l17 x18 z19 l20 z21 l22 z23 l24 z25 l26 z27 l28 x29)))
    (none))
  ((go k spec_l08Level [(.agg [(.int .i64 (x29)), (.arr true (z21) (.r3 (l22))), (.arr true (z23) (.ints .i64 (l24))), (.arr true (z25) (.ints .i64 (l26))), (.arr true (z27) (.ints .i64 (l28)))])]).bind fun r1 =>
    lp k spec_l17Adapt [] fu 10 k (s_spec_l17Adapt_10 ((0 : Int)) z1 l2 z3 l4 z5 l6 z7 l8 x9 z10 l11 z12 l13 z14 l15 z16 l17 x18 z19 l20 (D.nil (D.cell 1 (nth r1 0))) (D.r3 (D.cell 1 (nth r1 0))) (D.nil (D.cell 2 (nth r1 0))) (D.ints (D.cell 2 (nth r1 0))) (D.nil (D.cell 3 (nth r1 0))) (D.ints (D.cell 3 (nth r1 0))) (D.nil (D.cell 4 (nth r1 0))) (D.ints (D.cell 4 (nth r1 0))) (D.toInt (D.cell 0 (nth r1 0))))) := by kernel_rfl
def s_impl_State_adapt_12 (x0 : Int) (z1 : Bool) (l2 : List (Int × Int × Int)) (z3 : Bool) (l4 : List Int) (z5 : Bool) (l6 : List Int) (z7 : Bool) (l8 : List Int) (x9 : Int) (l10 : List (Int × Int × Int)) : St := ⟨fill 91 [(0, (.ptr 4 (0) (0))), (7, (.mp 5)), (9, (.int .i64 (x0)))], [(.ptr 4 (0) (0))], [(.arr true (z1) (.r3 (l2))), (.arr true (z3) (.ints .i64 (l4))), (.arr true (z5) (.ints .i64 (l6))), (.arr true (z7) (.ints .i64 (l8))), (.box true [(.int .i64 (x9)), (.sl 0 none), (.sl 1 none), (.sl 2 none), (.sl 3 none)]), (.mp (l10))]⟩
def s_impl_State_adapt_3 (x0 : Int) (z1 : Bool) (l2 : List (Int × Int × Int)) (z3 : Bool) (l4 : List Int) (z5 : Bool) (l6 : List Int) (z7 : Bool) (l8 : List Int) (x9 : Int) (z10 : Bool) (l11 : List Int) (l12 : List (Int × Int × Int)) : St := ⟨fill 91 [(0, (.ptr 4 (0) (0))), (6, (.sl 5 none)), (7, (.mp 6)), (8, (.int .i64 (x0)))], [(.ptr 4 (0) (0))], [(.arr true (z1) (.r3 (l2))), (.arr true (z3) (.ints .i64 (l4))), (.arr true (z5) (.ints .i64 (l6))), (.arr true (z7) (.ints .i64 (l8))), (.box true [(.int .i64 (x9)), (.sl 0 none), (.sl 1 none), (.sl 2 none), (.sl 3 none)]), (.arr true (z10) (.ints .i64 (l11))), (.mp (l12))]⟩
theorem e_impl_State_adapt (k : Nat) (a0 : Int) (a1z : Bool) (a1 : List (Int × Int × Int)) (a2z : Bool) (a2 : List Int) (a3z : Bool) (a3 : List Int) (a4z : Bool) (a4 : List Int) (b : Int) (c : Int) : go (k + 1) impl_State_adapt [(.ptr true [(.int .i64 (a0)), (.arr true (a1z) (.r3 (a1))), (.arr true (a2z) (.ints .i64 (a2))), (.arr true (a3z) (.ints .i64 (a3))), (.arr true (a4z) (.ints .i64 (a4)))]), (.int .i64 (b)), (.int .i64 (c))] =
    (go k impl_Wishes [(.agg [(.int .i64 (a0)), (.arr false (a1z) (.r3 (a1))), (.arr false (a2z) (.ints .i64 (a2))), (.arr false (a3z) (.ints .i64 (a3))), (.arr false (a4z) (.ints .i64 (a4)))]), (.int .i64 (b)), (.int .i64 (c))]).bind fun r0 =>
  lp k impl_State_adapt [(.ptr true [(.int .i64 (a0)), (.arr true (a1z) (.r3 (a1))), (.arr true (a2z) (.ints .i64 (a2))), (.arr true (a3z) (.ints .i64 (a3))), (.arr true (a4z) (.ints .i64 (a4)))])] [] 3 k (s_impl_State_adapt_3 (IntKind.wrap .i64 (nI (List.length (D.ints (nth r0 0))) - (1 : Int))) a1z a1 a2z a2 a3z a3 a4z a4 a0 (D.nil (nth r0 0)) (D.ints (nth r0 0)) ([])) := by kernel_rfl
theorem l_impl_State_adapt_12 (k n : Nat) (fu : List (Nat × Nat)) (a0 : Int) (a1z : Bool) (a1 : List (Int × Int × Int)) (a2z : Bool) (a2 : List Int) (a3z : Bool) (a3 : List Int) (a4z : Bool) (a4 : List Int) (x0 : Int) (z1 : Bool) (l2 : List (Int × Int × Int)) (z3 : Bool) (l4 : List Int) (z5 : Bool) (l6 : List Int) (z7 : Bool) (l8 : List Int) (x9 : Int) (l10 : List (Int × Int × Int)) : lp k impl_State_adapt [(.ptr true [(.int .i64 (a0)), (.arr true (a1z) (.r3 (a1))), (.arr true (a2z) (.ints .i64 (a2))), (.arr true (a3z) (.ints .i64 (a3))), (.arr true (a4z) (.ints .i64 (a4)))])] fu 12 (n + 1) (s_impl_State_adapt_12 x0 z1 l2 z3 l4 z5 l6 z7 l8 x9 l10) =
    cond (decide (IntKind.wrap .i64 (x0 + (1 : Int)) < nI (List.length l2)))
  (cond (decide ((0 : Int) ≤ x0) && decide (x0 < nI (List.length l2)))
    (cond (hasK l10 (Prod.fst (List.getD l2 (Int.toNat x0) zz3), Prod.fst (Prod.snd (List.getD l2 (Int.toNat x0) zz3)), Prod.snd (Prod.snd (List.getD l2 (Int.toNat x0) zz3))))
      (cond (decide ((0 : Int) ≤ IntKind.wrap .i64 (x0 + (1 : Int))) && decide (IntKind.wrap .i64 (x0 + (1 : Int)) < nI (List.length l2)))
        (cond (hasK l10 (Prod.fst (List.getD l2 (Int.toNat (IntKind.wrap .i64 (x0 + (1 : Int)))) zz3), Prod.fst (Prod.snd (List.getD l2 (Int.toNat (IntKind.wrap .i64 (x0 + (1 : Int)))) zz3)), Prod.snd (Prod.snd (List.getD l2 (Int.toNat (IntKind.wrap .i64 (x0 + (1 : Int)))) zz3))))
          ((go k impl_Mesh_mayCoarsen [(.agg [(.int .i64 (x9)), (.arr false (z1) (.r3 (l2)))]), (.int .i64 (x0))]).bind fun r0 =>
            cond (bit (nth r0 0))
            ((go k impl_State_coarsen [(.ptr true [(.int .i64 (x9)), (.arr true (z1) (.r3 (l2))), (.arr true (z3) (.ints .i64 (l4))), (.arr true (z5) (.ints .i64 (l6))), (.arr true (z7) (.ints .i64 (l8)))]), (.int .i64 (x0))]).bind fun r1 =>
              lp k impl_State_adapt [(.ptr true [(.int .i64 (a0)), (.arr true (a1z) (.r3 (a1))), (.arr true (a2z) (.ints .i64 (a2))), (.arr true (a3z) (.ints .i64 (a3))), (.arr true (a4z) (.ints .i64 (a4)))])] fu 12 n (s_impl_State_adapt_12 (IntKind.wrap .i64 (x0 + (1 : Int))) (D.nil (D.cell 1 (nth r1 0))) (D.r3 (D.cell 1 (nth r1 0))) (D.nil (D.cell 2 (nth r1 0))) (D.ints (D.cell 2 (nth r1 0))) (D.nil (D.cell 3 (nth r1 0))) (D.ints (D.cell 3 (nth r1 0))) (D.nil (D.cell 4 (nth r1 0))) (D.ints (D.cell 4 (nth r1 0))) (D.toInt (D.cell 0 (nth r1 0))) l10))
            (lp k impl_State_adapt [(.ptr true [(.int .i64 (a0)), (.arr true (a1z) (.r3 (a1))), (.arr true (a2z) (.ints .i64 (a2))), (.arr true (a3z) (.ints .i64 (a3))), (.arr true (a4z) (.ints .i64 (a4)))])] fu 12 n (s_impl_State_adapt_12 (IntKind.wrap .i64 (x0 + (1 : Int))) z1 l2 z3 l4 z5 l6 z7 l8 x9 l10)))
          (lp k impl_State_adapt [(.ptr true [(.int .i64 (a0)), (.arr true (a1z) (.r3 (a1))), (.arr true (a2z) (.ints .i64 (a2))), (.arr true (a3z) (.ints .i64 (a3))), (.arr true (a4z) (.ints .i64 (a4)))])] fu 12 n (s_impl_State_adapt_12 (IntKind.wrap .i64 (x0 + (1 : Int))) z1 l2 z3 l4 z5 l6 z7 l8 x9 l10)))
        (none))
      (lp k impl_State_adapt [(.ptr true [(.int .i64 (a0)), (.arr true (a1z) (.r3 (a1))), (.arr true (a2z) (.ints .i64 (a2))), (.arr true (a3z) (.ints .i64 (a3))), (.arr true (a4z) (.ints .i64 (a4)))])] fu 12 n (s_impl_State_adapt_12 (IntKind.wrap .i64 (x0 + (1 : Int))) z1 l2 z3 l4 z5 l6 z7 l8 x9 l10)))
    (none))
  (some [(.ptr true [(.int .i64 (x9)), (.arr true (z1) (.r3 (l2))), (.arr true (z3) (.ints .i64 (l4))), (.arr true (z5) (.ints .i64 (l6))), (.arr true (z7) (.ints .i64 (l8)))])]) := by kernel_rfl
theorem l_impl_State_adapt_3 (k n : Nat) (fu : List (Nat × Nat)) (a0 : Int) (a1z : Bool) (a1 : List (Int × Int × Int)) (a2z : Bool) (a2 : List Int) (a3z : Bool) (a3 : List Int) (a4z : Bool) (a4 : List Int) (x0 : Int) (z1 : Bool) (l2 : List (Int × Int × Int)) (z3 : Bool) (l4 : List Int) (z5 : Bool) (l6 : List Int) (z7 : Bool) (l8 : List Int) (x9 : Int) (z10 : Bool) (l11 : List Int) (l12 : List (Int × Int × Int)) : lp k impl_State_adapt [(.ptr true [(.int .i64 (a0)), (.arr true (a1z) (.r3 (a1))), (.arr true (a2z) (.ints .i64 (a2))), (.arr true (a3z) (.ints .i64 (a3))), (.arr true (a4z) (.ints .i64 (a4)))])] fu 3 (n + 1) (s_impl_State_adapt_3 x0 z1 l2 z3 l4 z5 l6 z7 l8 x9 z10 l11 l12) =
    cond (decide ((0 : Int) ≤ x0))
  (cond (decide ((0 : Int) ≤ x0) && decide (x0 < nI (List.length l11)))
    (cond (decide (List.getD l11 (Int.toNat x0) (0 : Int) = (1 : Int)))
      ((go k impl_State_refine [(.ptr true [(.int .i64 (x9)), (.arr true (z1) (.r3 (l2))), (.arr true (z3) (.ints .i64 (l4))), (.arr true (z5) (.ints .i64 (l6))), (.arr true (z7) (.ints .i64 (l8)))]), (.int .i64 (x0))]).bind fun r0 =>
        lp k impl_State_adapt [(.ptr true [(.int .i64 (a0)), (.arr true (a1z) (.r3 (a1))), (.arr true (a2z) (.ints .i64 (a2))), (.arr true (a3z) (.ints .i64 (a3))), (.arr true (a4z) (.ints .i64 (a4)))])] fu 3 n (s_impl_State_adapt_3 (IntKind.wrap .i64 (x0 - (1 : Int))) (D.nil (D.cell 1 (nth r0 0))) (D.r3 (D.cell 1 (nth r0 0))) (D.nil (D.cell 2 (nth r0 0))) (D.ints (D.cell 2 (nth r0 0))) (D.nil (D.cell 3 (nth r0 0))) (D.ints (D.cell 3 (nth r0 0))) (D.nil (D.cell 4 (nth r0 0))) (D.ints (D.cell 4 (nth r0 0))) (D.toInt (D.cell 0 (nth r0 0))) z10 l11 l12))
      (cond (decide (List.getD l11 (Int.toNat x0) (0 : Int) = (-1 : Int)))
        (cond (decide ((0 : Int) ≤ x0) && decide (x0 < nI (List.length l2)))
          (lp k impl_State_adapt [(.ptr true [(.int .i64 (a0)), (.arr true (a1z) (.r3 (a1))), (.arr true (a2z) (.ints .i64 (a2))), (.arr true (a3z) (.ints .i64 (a3))), (.arr true (a4z) (.ints .i64 (a4)))])] fu 3 n (s_impl_State_adapt_3 (IntKind.wrap .i64 (x0 - (1 : Int))) z1 l2 z3 l4 z5 l6 z7 l8 x9 z10 l11 (l12 ++ [(Prod.fst (List.getD l2 (Int.toNat x0) zz3), Prod.fst (Prod.snd (List.getD l2 (Int.toNat x0) zz3)), Prod.snd (Prod.snd (List.getD l2 (Int.toNat x0) zz3)))])))
          (none))
        (lp k impl_State_adapt [(.ptr true [(.int .i64 (a0)), (.arr true (a1z) (.r3 (a1))), (.arr true (a2z) (.ints .i64 (a2))), (.arr true (a3z) (.ints .i64 (a3))), (.arr true (a4z) (.ints .i64 (a4)))])] fu 3 n (s_impl_State_adapt_3 (IntKind.wrap .i64 (x0 - (1 : Int))) z1 l2 z3 l4 z5 l6 z7 l8 x9 z10 l11 l12))))
    (none))
  ((go k impl_State_balance [(.ptr true [(.int .i64 (x9)), (.arr true (z1) (.r3 (l2))), (.arr true (z3) (.ints .i64 (l4))), (.arr true (z5) (.ints .i64 (l6))), (.arr true (z7) (.ints .i64 (l8)))])]).bind fun r1 =>
    lp k impl_State_adapt [(.ptr true [(.int .i64 (a0)), (.arr true (a1z) (.r3 (a1))), (.arr true (a2z) (.ints .i64 (a2))), (.arr true (a3z) (.ints .i64 (a3))), (.arr true (a4z) (.ints .i64 (a4)))])] fu 12 k (s_impl_State_adapt_12 ((0 : Int)) (D.nil (D.cell 1 (nth r1 0))) (D.r3 (D.cell 1 (nth r1 0))) (D.nil (D.cell 2 (nth r1 0))) (D.ints (D.cell 2 (nth r1 0))) (D.nil (D.cell 3 (nth r1 0))) (D.ints (D.cell 3 (nth r1 0))) (D.nil (D.cell 4 (nth r1 0))) (D.ints (D.cell 4 (nth r1 0))) (D.toInt (D.cell 0 (nth r1 0))) l12)) := by kernel_rfl
theorem e_impl_AdaptState (k : Nat) (a0 : Int) (a1z : Bool) (a1 : List (Int × Int × Int)) (a2z : Bool) (a2 : List Int) (a3z : Bool) (a3 : List Int) (a4z : Bool) (a4 : List Int) (b : Int) (c : Int) : go (k + 1) impl_AdaptState [(.agg [(.int .i64 (a0)), (.arr false (a1z) (.r3 (a1))), (.arr false (a2z) (.ints .i64 (a2))), (.arr false (a3z) (.ints .i64 (a3))), (.arr false (a4z) (.ints .i64 (a4)))]), (.int .i64 (b)), (.int .i64 (c))] =
    (go k impl_copyState [(.agg [(.int .i64 (a0)), (.arr false (a1z) (.r3 (a1))), (.arr false (a2z) (.ints .i64 (a2))), (.arr false (a3z) (.ints .i64 (a3))), (.arr false (a4z) (.ints .i64 (a4)))])]).bind fun r0 =>
  (go k impl_StateOk [(.agg [(.int .i64 (a0)), (.arr false (a1z) (.r3 (a1))), (.arr false (a2z) (.ints .i64 (a2))), (.arr false (a3z) (.ints .i64 (a3))), (.arr false (a4z) (.ints .i64 (a4)))])]).bind fun r1 =>
  cond (bit (nth r1 0))
  ((go k impl_State_adapt [(.ptr true [(.int .i64 (D.toInt (D.cell 0 (nth r0 0)))), (.arr true (D.nil (D.cell 1 (nth r0 0))) (.r3 (D.r3 (D.cell 1 (nth r0 0))))), (.arr true (D.nil (D.cell 2 (nth r0 0))) (.ints .i64 (D.ints (D.cell 2 (nth r0 0))))), (.arr true (D.nil (D.cell 3 (nth r0 0))) (.ints .i64 (D.ints (D.cell 3 (nth r0 0))))), (.arr true (D.nil (D.cell 4 (nth r0 0))) (.ints .i64 (D.ints (D.cell 4 (nth r0 0)))))]), (.int .i64 (b)), (.int .i64 (c))]).bind fun r2 =>
    some [(.agg [(.int .i64 (D.toInt (D.cell 0 (nth r2 0)))), (.arr true (D.nil (D.cell 1 (nth r2 0))) (.r3 (D.r3 (D.cell 1 (nth r2 0))))), (.arr true (D.nil (D.cell 2 (nth r2 0))) (.ints .i64 (D.ints (D.cell 2 (nth r2 0))))), (.arr true (D.nil (D.cell 3 (nth r2 0))) (.ints .i64 (D.ints (D.cell 3 (nth r2 0))))), (.arr true (D.nil (D.cell 4 (nth r2 0))) (.ints .i64 (D.ints (D.cell 4 (nth r2 0)))))])])
  (some [(.agg [(.int .i64 (D.toInt (D.cell 0 (nth r0 0)))), (.arr true (D.nil (D.cell 1 (nth r0 0))) (.r3 (D.r3 (D.cell 1 (nth r0 0))))), (.arr true (D.nil (D.cell 2 (nth r0 0))) (.ints .i64 (D.ints (D.cell 2 (nth r0 0))))), (.arr true (D.nil (D.cell 3 (nth r0 0))) (.ints .i64 (D.ints (D.cell 3 (nth r0 0))))), (.arr true (D.nil (D.cell 4 (nth r0 0))) (.ints .i64 (D.ints (D.cell 4 (nth r0 0)))))])]) := by kernel_rfl
def s_spec_l16Wishes_3 (x0 : Int) (x1 : Int) (x2 : Int) (z3 : Bool) (l4 : List (Int × Int × Int)) (z5 : Bool) (l6 : List Int) (z7 : Bool) (l8 : List Int) (z9 : Bool) (l10 : List Int) (x11 : Int) (z12 : Bool) (l13 : List Int) : St := ⟨fill 53 [(1, (.int .i64 (x0))), (2, (.int .i64 (x1))), (3, (.ptr 4 (0) (0))), (7, (.sl 5 none)), (8, (.int .i64 (x2)))], [], [(.arr false (z3) (.r3 (l4))), (.arr false (z5) (.ints .i64 (l6))), (.arr false (z7) (.ints .i64 (l8))), (.arr false (z9) (.ints .i64 (l10))), (.box true [(.int .i64 (x11)), (.sl 0 none), (.sl 1 none), (.sl 2 none), (.sl 3 none)]), (.arr true (z12) (.ints .i64 (l13)))]⟩
theorem e_spec_l16Wishes (k : Nat) (a0 : Int) (a1z : Bool) (a1 : List (Int × Int × Int)) (a2z : Bool) (a2 : List Int) (a3z : Bool) (a3 : List Int) (a4z : Bool) (a4 : List Int) (b : Int) (c : Int) : go (k + 1) spec_l16Wishes [(.agg [(.int .i64 (a0)), (.arr false (a1z) (.r3 (a1))), (.arr false (a2z) (.ints .i64 (a2))), (.arr false (a3z) (.ints .i64 (a3))), (.arr false (a4z) (.ints .i64 (a4)))]), (.int .i64 (b)), (.int .i64 (c))] =
    lp k spec_l16Wishes [] [] 3 k (s_spec_l16Wishes_3 b c ((0 : Int)) a1z a1 a2z a2 a3z a3 a4z a4 a0 false ([])) := by kernel_rfl
theorem l_spec_l16Wishes_3 (k n : Nat) (fu : List (Nat × Nat)) (x0 : Int) (x1 : Int) (x2 : Int) (z3 : Bool) (l4 : List (Int × Int × Int)) (z5 : Bool) (l6 : List Int) (z7 : Bool) (l8 : List Int) (z9 : Bool) (l10 : List Int) (x11 : Int) (z12 : Bool) (l13 : List Int) : lp k spec_l16Wishes [] fu 3 (n + 1) (s_spec_l16Wishes_3 x0 x1 x2 z3 l4 z5 l6 z7 l8 z9 l10 x11 z12 l13) =
    cond (decide (x2 < nI (List.length l6)))
  ((go k spec_l16Jump [(.agg [(.int .i64 (x11)), (.arr false (z3) (.r3 (l4))), (.arr false (z5) (.ints .i64 (l6))), (.arr false (z7) (.ints .i64 (l8))), (.arr false (z9) (.ints .i64 (l10)))]), (.int .i64 (x2))]).bind fun r0 =>
    cond (decide (x0 < D.toInt (nth r0 0)))
    (cond (decide ((0 : Int) ≤ x2) && decide (x2 < nI (List.length l4)))
      (cond (decide (Prod.fst (Prod.snd (List.getD l4 (Int.toNat x2) zz3)) < (4 : Int)))
        (cond (decide (List.length (l13 ++ [(1 : Int)]) ≤ bigLen))
          (lp k spec_l16Wishes [] fu 3 n (s_spec_l16Wishes_3 x0 x1 (IntKind.wrap .i64 (x2 + (1 : Int))) z3 l4 z5 l6 z7 l8 z9 l10 x11 (z12 && decide (List.length (l13 ++ [(1 : Int)]) = 0)) (l13 ++ [(1 : Int)])))
          (none))
        (cond (decide (D.toInt (nth r0 0) < x1))
          (cond (decide ((0 : Int) ≤ x2) && decide (x2 < nI (List.length l4)))
            (cond (decide ((0 : Int) < Prod.fst (Prod.snd (List.getD l4 (Int.toNat x2) zz3))))
              (cond (decide (List.length (l13 ++ [(-1 : Int)]) ≤ bigLen))
                (lp k spec_l16Wishes [] fu 3 n (s_spec_l16Wishes_3 x0 x1 (IntKind.wrap .i64 (x2 + (1 : Int))) z3 l4 z5 l6 z7 l8 z9 l10 x11 (z12 && decide (List.length (l13 ++ [(-1 : Int)]) = 0)) (l13 ++ [(-1 : Int)])))
                (none))
              (cond (decide (List.length (l13 ++ [(0 : Int)]) ≤ bigLen))
                (lp k spec_l16Wishes [] fu 3 n (s_spec_l16Wishes_3 x0 x1 (IntKind.wrap .i64 (x2 + (1 : Int))) z3 l4 z5 l6 z7 l8 z9 l10 x11 (z12 && decide (List.length (l13 ++ [(0 : Int)]) = 0)) (l13 ++ [(0 : Int)])))
                (none)))
            (none))
          (cond (decide (List.length (l13 ++ [(0 : Int)]) ≤ bigLen))
            (lp k spec_l16Wishes [] fu 3 n (s_spec_l16Wishes_3 x0 x1 (IntKind.wrap .i64 (x2 + (1 : Int))) z3 l4 z5 l6 z7 l8 z9 l10 x11 (z12 && decide (List.length (l13 ++ [(0 : Int)]) = 0)) (l13 ++ [(0 : Int)])))
            (none))))
      (none))
    (cond (decide (D.toInt (nth r0 0) < x1))
      (cond (decide ((0 : Int) ≤ x2) && decide (x2 < nI (List.length l4)))
        (cond (decide ((0 : Int) < Prod.fst (Prod.snd (List.getD l4 (Int.toNat x2) zz3))))
          (cond (decide (List.length (l13 ++ [(-1 : Int)]) ≤ bigLen))
            (lp k spec_l16Wishes [] fu 3 n (s_spec_l16Wishes_3 x0 x1 (IntKind.wrap .i64 (x2 + (1 : Int))) z3 l4 z5 l6 z7 l8 z9 l10 x11 (z12 && decide (List.length (l13 ++ [(-1 : Int)]) = 0)) (l13 ++ [(-1 : Int)])))
            (none))
          (cond (decide (List.length (l13 ++ [(0 : Int)]) ≤ bigLen))
            (lp k spec_l16Wishes [] fu 3 n (s_spec_l16Wishes_3 x0 x1 (IntKind.wrap .i64 (x2 + (1 : Int))) z3 l4 z5 l6 z7 l8 z9 l10 x11 (z12 && decide (List.length (l13 ++ [(0 : Int)]) = 0)) (l13 ++ [(0 : Int)])))
            (none)))
        (none))
      (cond (decide (List.length (l13 ++ [(0 : Int)]) ≤ bigLen))
        (lp k spec_l16Wishes [] fu 3 n (s_spec_l16Wishes_3 x0 x1 (IntKind.wrap .i64 (x2 + (1 : Int))) z3 l4 z5 l6 z7 l8 z9 l10 x11 (z12 && decide (List.length (l13 ++ [(0 : Int)]) = 0)) (l13 ++ [(0 : Int)])))
        (none))))
  (some [(.arr true (z12) (.ints .i64 (l13)))]) := by kernel_rfl
theorem e_spec_l16Jump (k : Nat) (a0 : Int) (a1z : Bool) (a1 : List (Int × Int × Int)) (a2z : Bool) (a2 : List Int) (a3z : Bool) (a3 : List Int) (a4z : Bool) (a4 : List Int) (b : Int) : go (k + 1) spec_l16Jump [(.agg [(.int .i64 (a0)), (.arr false (a1z) (.r3 (a1))), (.arr false (a2z) (.ints .i64 (a2))), (.arr false (a3z) (.ints .i64 (a3))), (.arr false (a4z) (.ints .i64 (a4)))]), (.int .i64 (b))] =
    cond (decide ((0 : Int) < b))
  ((go k spec_l09Surface [(.agg [(.int .i64 (a0)), (.arr false (a1z) (.r3 (a1))), (.arr false (a2z) (.ints .i64 (a2))), (.arr false (a3z) (.ints .i64 (a3))), (.arr false (a4z) (.ints .i64 (a4)))]), (.int .i64 (b))]).bind fun r0 =>
    (go k spec_l09Surface [(.agg [(.int .i64 (a0)), (.arr false (a1z) (.r3 (a1))), (.arr false (a2z) (.ints .i64 (a2))), (.arr false (a3z) (.ints .i64 (a3))), (.arr false (a4z) (.ints .i64 (a4)))]), (.int .i64 (IntKind.wrap .i64 (b - (1 : Int))))]).bind fun r1 =>
    (go k spec_l09Gap [(.int .i64 (D.toInt (nth r0 0))), (.int .i64 (D.toInt (nth r1 0)))]).bind fun r2 =>
    cond (decide (IntKind.wrap .i64 (b + (1 : Int)) < nI (List.length a2)))
    ((go k spec_l09Surface [(.agg [(.int .i64 (a0)), (.arr false (a1z) (.r3 (a1))), (.arr false (a2z) (.ints .i64 (a2))), (.arr false (a3z) (.ints .i64 (a3))), (.arr false (a4z) (.ints .i64 (a4)))]), (.int .i64 (b))]).bind fun r3 =>
      (go k spec_l09Surface [(.agg [(.int .i64 (a0)), (.arr false (a1z) (.r3 (a1))), (.arr false (a2z) (.ints .i64 (a2))), (.arr false (a3z) (.ints .i64 (a3))), (.arr false (a4z) (.ints .i64 (a4)))]), (.int .i64 (IntKind.wrap .i64 (b + (1 : Int))))]).bind fun r4 =>
      (go k spec_l09Gap [(.int .i64 (D.toInt (nth r3 0))), (.int .i64 (D.toInt (nth r4 0)))]).bind fun r5 =>
      some [(.int .i64 (if D.toInt (nth r5 0) > D.toInt (nth r2 0) then D.toInt (nth r5 0) else D.toInt (nth r2 0)))])
    (some [(.int .i64 (D.toInt (nth r2 0)))]))
  (cond (decide (IntKind.wrap .i64 (b + (1 : Int)) < nI (List.length a2)))
    ((go k spec_l09Surface [(.agg [(.int .i64 (a0)), (.arr false (a1z) (.r3 (a1))), (.arr false (a2z) (.ints .i64 (a2))), (.arr false (a3z) (.ints .i64 (a3))), (.arr false (a4z) (.ints .i64 (a4)))]), (.int .i64 (b))]).bind fun r6 =>
      (go k spec_l09Surface [(.agg [(.int .i64 (a0)), (.arr false (a1z) (.r3 (a1))), (.arr false (a2z) (.ints .i64 (a2))), (.arr false (a3z) (.ints .i64 (a3))), (.arr false (a4z) (.ints .i64 (a4)))]), (.int .i64 (IntKind.wrap .i64 (b + (1 : Int))))]).bind fun r7 =>
      (go k spec_l09Gap [(.int .i64 (D.toInt (nth r6 0))), (.int .i64 (D.toInt (nth r7 0)))]).bind fun r8 =>
      some [(.int .i64 (if D.toInt (nth r8 0) > (0 : Int) then D.toInt (nth r8 0) else (0 : Int)))])
    (some [(.int .i64 ((0 : Int)))])) := by kernel_rfl
def s_impl_State_jump_3 (x0 : Int) (x1 : Int) (x2 : Int) (x3 : Int) (z4 : Bool) (l5 : List (Int × Int × Int)) (z6 : Bool) (l7 : List Int) (z8 : Bool) (l9 : List Int) (z10 : Bool) (l11 : List Int) (x12 : Int) (z13 : Bool) (l14 : List Int) : St := ⟨fill 29 [(1, (.int .i64 (x0))), (2, (.ptr 4 (0) (0))), (5, (.int .i64 (x1))), (11, (.sl 5 none)), (12, (.int .i64 (x2))), (13, (.int .i64 (x3)))], [], [(.arr false (z4) (.r3 (l5))), (.arr false (z6) (.ints .i64 (l7))), (.arr false (z8) (.ints .i64 (l9))), (.arr false (z10) (.ints .i64 (l11))), (.box true [(.int .i64 (x12)), (.sl 0 none), (.sl 1 none), (.sl 2 none), (.sl 3 none)]), (.arr true (z13) (.ints .i64 (l14)))]⟩
theorem e_impl_State_jump (k : Nat) (a0 : Int) (a1z : Bool) (a1 : List (Int × Int × Int)) (a2z : Bool) (a2 : List Int) (a3z : Bool) (a3 : List Int) (a4z : Bool) (a4 : List Int) (b : Int) : go (k + 1) impl_State_jump [(.agg [(.int .i64 (a0)), (.arr false (a1z) (.r3 (a1))), (.arr false (a2z) (.ints .i64 (a2))), (.arr false (a3z) (.ints .i64 (a3))), (.arr false (a4z) (.ints .i64 (a4)))]), (.int .i64 (b))] =
    (go k impl_Mesh_neighbours [(.agg [(.int .i64 (a0)), (.arr false (a1z) (.r3 (a1)))]), (.int .i64 (b))]).bind fun r0 =>
  lp k impl_State_jump [] [] 3 k (s_impl_State_jump_3 b ((0 : Int)) (nI (List.length (D.ints (nth r0 0)))) ((0 : Int)) a1z a1 a2z a2 a3z a3 a4z a4 a0 (D.nil (nth r0 0)) (D.ints (nth r0 0))) := by kernel_rfl
theorem l_impl_State_jump_3 (k n : Nat) (fu : List (Nat × Nat)) (x0 : Int) (x1 : Int) (x2 : Int) (x3 : Int) (z4 : Bool) (l5 : List (Int × Int × Int)) (z6 : Bool) (l7 : List Int) (z8 : Bool) (l9 : List Int) (z10 : Bool) (l11 : List Int) (x12 : Int) (z13 : Bool) (l14 : List Int) : lp k impl_State_jump [] fu 3 (n + 1) (s_impl_State_jump_3 x0 x1 x2 x3 z4 l5 z6 l7 z8 l9 z10 l11 x12 z13 l14) =
    cond (decide (x3 < x2))
  (cond (decide ((0 : Int) ≤ x3) && decide (x3 < nI (List.length l14)))
    ((go k impl_State_surface [(.agg [(.int .i64 (x12)), (.arr false (z4) (.r3 (l5))), (.arr false (z6) (.ints .i64 (l7))), (.arr false (z8) (.ints .i64 (l9))), (.arr false (z10) (.ints .i64 (l11)))]), (.int .i64 (x0))]).bind fun r0 =>
      (go k impl_State_surface [(.agg [(.int .i64 (x12)), (.arr false (z4) (.r3 (l5))), (.arr false (z6) (.ints .i64 (l7))), (.arr false (z8) (.ints .i64 (l9))), (.arr false (z10) (.ints .i64 (l11)))]), (.int .i64 (List.getD l14 (Int.toNat x3) (0 : Int)))]).bind fun r1 =>
      (go k impl_absolute [(.int .i64 (IntKind.wrap .i64 (D.toInt (nth r0 0) - D.toInt (nth r1 0))))]).bind fun r2 =>
      lp k impl_State_jump [] fu 3 n (s_impl_State_jump_3 x0 (if D.toInt (nth r2 0) > x1 then D.toInt (nth r2 0) else x1) x2 (IntKind.wrap .i64 (x3 + (1 : Int))) z4 l5 z6 l7 z8 l9 z10 l11 x12 z13 l14))
    (none))
  (some [(.int .i64 (x1))]) := by kernel_rfl
def s_impl_Mesh_neighbours_3 (x0 : Int) (x1 : Int) (z2 : Bool) (l3 : List (Int × Int × Int)) (x4 : Int) (z5 : Bool) (l6 : List Int) (z7 : Bool) (l8 : List Int) : St := ⟨fill 28 [(2, (.ptr 1 (0) (0))), (5, (.sl 2 none)), (13, (.sl 3 none)), (14, (.int .i64 (x0))), (15, (.int .i64 (x1)))], [], [(.arr false (z2) (.r3 (l3))), (.box true [(.int .i64 (x4)), (.sl 0 none)]), (.arr true (z5) (.ints .i64 (l6))), (.arr true (z7) (.ints .i64 (l8)))]⟩
theorem e_impl_Mesh_neighbours (k : Nat) (a0 : Int) (a1z : Bool) (a1 : List (Int × Int × Int)) (b : Int) : go (k + 1) impl_Mesh_neighbours [(.agg [(.int .i64 (a0)), (.arr false (a1z) (.r3 (a1)))]), (.int .i64 (b))] =
    lp k impl_Mesh_neighbours [] [] 3 k (s_impl_Mesh_neighbours_3 (nI (List.length [IntKind.wrap .i64 (b - (1 : Int)), IntKind.wrap .i64 (b + (1 : Int))])) ((0 : Int)) a1z a1 a0 false ([]) false ([IntKind.wrap .i64 (b - (1 : Int)), IntKind.wrap .i64 (b + (1 : Int))])) := by kernel_rfl
theorem l_impl_Mesh_neighbours_3 (k n : Nat) (fu : List (Nat × Nat)) (x0 : Int) (x1 : Int) (z2 : Bool) (l3 : List (Int × Int × Int)) (x4 : Int) (z5 : Bool) (l6 : List Int) (z7 : Bool) (l8 : List Int) : lp k impl_Mesh_neighbours [] fu 3 (n + 1) (s_impl_Mesh_neighbours_3 x0 x1 z2 l3 x4 z5 l6 z7 l8) =
    cond (decide (x1 < x0))
  (cond (decide ((0 : Int) ≤ x1) && decide (x1 < nI (List.length l8)))
    ((go k impl_Mesh_has [(.agg [(.int .i64 (x4)), (.arr false (z2) (.r3 (l3)))]), (.int .i64 (List.getD l8 (Int.toNat x1) (0 : Int)))]).bind fun r0 =>
      cond (bit (nth r0 0))
      (cond (decide (List.length (l6 ++ [List.getD l8 (Int.toNat x1) (0 : Int)]) ≤ bigLen))
        (lp k impl_Mesh_neighbours [] fu 3 n (s_impl_Mesh_neighbours_3 x0 (IntKind.wrap .i64 (x1 + (1 : Int))) z2 l3 x4 (z5 && decide (List.length (l6 ++ [List.getD l8 (Int.toNat x1) (0 : Int)]) = 0)) (l6 ++ [List.getD l8 (Int.toNat x1) (0 : Int)]) z7 l8))
        (none))
      (lp k impl_Mesh_neighbours [] fu 3 n (s_impl_Mesh_neighbours_3 x0 (IntKind.wrap .i64 (x1 + (1 : Int))) z2 l3 x4 z5 l6 z7 l8)))
    (none))
  (some [(.arr true (z5) (.ints .i64 (l6)))]) := by kernel_rfl
def s_impl_Wishes_5 (x0 : Int) (x1 : Int) (x2 : Int) (x3 : Int) (z4 : Bool) (l5 : List (Int × Int × Int)) (z6 : Bool) (l7 : List Int) (z8 : Bool) (l9 : List Int) (z10 : Bool) (l11 : List Int) (x12 : Int) (z13 : Bool) (l14 : List Int) : St := ⟨fill 52 [(1, (.int .i64 (x0))), (2, (.int .i64 (x1))), (3, (.ptr 4 (0) (0))), (7, (.sl 5 none)), (18, (.sl 0 none)), (19, (.int .i64 (x2))), (20, (.int .i64 (x3)))], [], [(.arr false (z4) (.r3 (l5))), (.arr false (z6) (.ints .i64 (l7))), (.arr false (z8) (.ints .i64 (l9))), (.arr false (z10) (.ints .i64 (l11))), (.box true [(.int .i64 (x12)), (.sl 0 none), (.sl 1 none), (.sl 2 none), (.sl 3 none)]), (.arr true (z13) (.ints .i64 (l14)))]⟩
theorem e_impl_Wishes (k : Nat) (a0 : Int) (a1z : Bool) (a1 : List (Int × Int × Int)) (a2z : Bool) (a2 : List Int) (a3z : Bool) (a3 : List Int) (a4z : Bool) (a4 : List Int) (b : Int) (c : Int) : go (k + 1) impl_Wishes [(.agg [(.int .i64 (a0)), (.arr false (a1z) (.r3 (a1))), (.arr false (a2z) (.ints .i64 (a2))), (.arr false (a3z) (.ints .i64 (a3))), (.arr false (a4z) (.ints .i64 (a4)))]), (.int .i64 (b)), (.int .i64 (c))] =
    (go k impl_StateOk [(.agg [(.int .i64 (a0)), (.arr false (a1z) (.r3 (a1))), (.arr false (a2z) (.ints .i64 (a2))), (.arr false (a3z) (.ints .i64 (a3))), (.arr false (a4z) (.ints .i64 (a4)))])]).bind fun r0 =>
  cond (!bit (nth r0 0))
  (some [(.arr true (true) (.ints .i64 ([])))])
  (lp k impl_Wishes [] [] 5 k (s_impl_Wishes_5 b c (nI (List.length a1)) ((0 : Int)) a1z a1 a2z a2 a3z a3 a4z a4 a0 false ([]))) := by kernel_rfl
theorem l_impl_Wishes_5 (k n : Nat) (fu : List (Nat × Nat)) (x0 : Int) (x1 : Int) (x2 : Int) (x3 : Int) (z4 : Bool) (l5 : List (Int × Int × Int)) (z6 : Bool) (l7 : List Int) (z8 : Bool) (l9 : List Int) (z10 : Bool) (l11 : List Int) (x12 : Int) (z13 : Bool) (l14 : List Int) : lp k impl_Wishes [] fu 5 (n + 1) (s_impl_Wishes_5 x0 x1 x2 x3 z4 l5 z6 l7 z8 l9 z10 l11 x12 z13 l14) =
    cond (decide (x3 < x2))
  (cond (decide ((0 : Int) ≤ x3) && decide (x3 < nI (List.length l5)))
    ((go k impl_State_jump [(.agg [(.int .i64 (x12)), (.arr false (z4) (.r3 (l5))), (.arr false (z6) (.ints .i64 (l7))), (.arr false (z8) (.ints .i64 (l9))), (.arr false (z10) (.ints .i64 (l11)))]), (.int .i64 (x3))]).bind fun r0 =>
      cond (decide (x0 < D.toInt (nth r0 0)))
      (cond (decide (Prod.fst (Prod.snd (List.getD l5 (Int.toNat x3) zz3)) < (4 : Int)))
        (cond (decide (List.length (l14 ++ [(1 : Int)]) ≤ bigLen))
          (lp k impl_Wishes [] fu 5 n (s_impl_Wishes_5 x0 x1 x2 (IntKind.wrap .i64 (x3 + (1 : Int))) z4 l5 z6 l7 z8 l9 z10 l11 x12 (z13 && decide (List.length (l14 ++ [(1 : Int)]) = 0)) (l14 ++ [(1 : Int)])))
          (none))
        (cond (decide (D.toInt (nth r0 0) < x1))
          (cond (decide ((0 : Int) < Prod.fst (Prod.snd (List.getD l5 (Int.toNat x3) zz3))))
            (cond (decide (List.length (l14 ++ [(-1 : Int)]) ≤ bigLen))
              (lp k impl_Wishes [] fu 5 n (s_impl_Wishes_5 x0 x1 x2 (IntKind.wrap .i64 (x3 + (1 : Int))) z4 l5 z6 l7 z8 l9 z10 l11 x12 (z13 && decide (List.length (l14 ++ [(-1 : Int)]) = 0)) (l14 ++ [(-1 : Int)])))
              (none))
            (cond (decide (List.length (l14 ++ [(0 : Int)]) ≤ bigLen))
              (lp k impl_Wishes [] fu 5 n (s_impl_Wishes_5 x0 x1 x2 (IntKind.wrap .i64 (x3 + (1 : Int))) z4 l5 z6 l7 z8 l9 z10 l11 x12 (z13 && decide (List.length (l14 ++ [(0 : Int)]) = 0)) (l14 ++ [(0 : Int)])))
              (none)))
          (cond (decide (List.length (l14 ++ [(0 : Int)]) ≤ bigLen))
            (lp k impl_Wishes [] fu 5 n (s_impl_Wishes_5 x0 x1 x2 (IntKind.wrap .i64 (x3 + (1 : Int))) z4 l5 z6 l7 z8 l9 z10 l11 x12 (z13 && decide (List.length (l14 ++ [(0 : Int)]) = 0)) (l14 ++ [(0 : Int)])))
            (none))))
      (cond (decide (D.toInt (nth r0 0) < x1))
        (cond (decide ((0 : Int) < Prod.fst (Prod.snd (List.getD l5 (Int.toNat x3) zz3))))
          (cond (decide (List.length (l14 ++ [(-1 : Int)]) ≤ bigLen))
            (lp k impl_Wishes [] fu 5 n (s_impl_Wishes_5 x0 x1 x2 (IntKind.wrap .i64 (x3 + (1 : Int))) z4 l5 z6 l7 z8 l9 z10 l11 x12 (z13 && decide (List.length (l14 ++ [(-1 : Int)]) = 0)) (l14 ++ [(-1 : Int)])))
            (none))
          (cond (decide (List.length (l14 ++ [(0 : Int)]) ≤ bigLen))
            (lp k impl_Wishes [] fu 5 n (s_impl_Wishes_5 x0 x1 x2 (IntKind.wrap .i64 (x3 + (1 : Int))) z4 l5 z6 l7 z8 l9 z10 l11 x12 (z13 && decide (List.length (l14 ++ [(0 : Int)]) = 0)) (l14 ++ [(0 : Int)])))
            (none)))
        (cond (decide (List.length (l14 ++ [(0 : Int)]) ≤ bigLen))
          (lp k impl_Wishes [] fu 5 n (s_impl_Wishes_5 x0 x1 x2 (IntKind.wrap .i64 (x3 + (1 : Int))) z4 l5 z6 l7 z8 l9 z10 l11 x12 (z13 && decide (List.length (l14 ++ [(0 : Int)]) = 0)) (l14 ++ [(0 : Int)])))
          (none))))
    (none))
  (some [(.arr true (z13) (.ints .i64 (l14)))]) := by kernel_rfl
def s_spec_LeafOf_2 (x0 : Int) (z1 : Bool) (l2 : List (Int × Int × Int)) (x3 : Int) (x4 : Int) (x5 : Int) (x6 : Int) : St := ⟨fill 21 [(2, (.ptr 1 (0) (0))), (3, (.ptr 2 (0) (0))), (5, (.int .i64 (x0)))], [], [(.arr false (z1) (.r3 (l2))), (.box true [(.int .i64 (x3)), (.sl 0 none)]), (.box true [(.int .i64 (x4)), (.int .i64 (x5)), (.int .i64 (x6))])]⟩
theorem e_spec_LeafOf (k : Nat) (a0 : Int) (a1z : Bool) (a1 : List (Int × Int × Int)) (b0 : Int) (b1 : Int) (b2 : Int) : go (k + 1) spec_LeafOf [(.agg [(.int .i64 (a0)), (.arr false (a1z) (.r3 (a1)))]), (.agg [(.int .i64 (b0)), (.int .i64 (b1)), (.int .i64 (b2))])] =
    lp k spec_LeafOf [] [] 2 k (s_spec_LeafOf_2 ((0 : Int)) a1z a1 a0 b0 b1 b2) := by kernel_rfl
theorem l_spec_LeafOf_2 (k n : Nat) (fu : List (Nat × Nat)) (x0 : Int) (z1 : Bool) (l2 : List (Int × Int × Int)) (x3 : Int) (x4 : Int) (x5 : Int) (x6 : Int) : lp k spec_LeafOf [] fu 2 (n + 1) (s_spec_LeafOf_2 x0 z1 l2 x3 x4 x5 x6) =
    cond (decide (x0 < nI (List.length l2)))
  (cond (decide ((0 : Int) ≤ x0) && decide (x0 < nI (List.length l2)))
    (cond (decide (Prod.fst (List.getD l2 (Int.toNat x0) zz3) = x4) && (decide (Prod.fst (Prod.snd (List.getD l2 (Int.toNat x0) zz3)) = x5) && (decide (Prod.snd (Prod.snd (List.getD l2 (Int.toNat x0) zz3)) = x6) && true)))
      (some [(.int .i64 (x0))])
      (lp k spec_LeafOf [] fu 2 n (s_spec_LeafOf_2 (IntKind.wrap .i64 (x0 + (1 : Int))) z1 l2 x3 x4 x5 x6)))
    (none))
  (some [(.int .i64 ((-1 : Int)))]) := by kernel_rfl
def s_spec_TuneHigh_4 (x0 : Int) (x1 : Int) (x2 : Int) (z3 : Bool) (l4 : List (Int × Int × Int)) (z5 : Bool) (l6 : List Int) (z7 : Bool) (l8 : List Int) (z9 : Bool) (l10 : List Int) (x11 : Int) : St := ⟨fill 30 [(1, (.int .i64 (x0))), (2, (.int .i64 (x1))), (3, (.ptr 4 (0) (0))), (7, (.int .i64 (x2)))], [], [(.arr false (z3) (.r3 (l4))), (.arr false (z5) (.ints .i64 (l6))), (.arr false (z7) (.ints .i64 (l8))), (.arr false (z9) (.ints .i64 (l10))), (.box true [(.int .i64 (x11)), (.sl 0 none), (.sl 1 none), (.sl 2 none), (.sl 3 none)])]⟩
theorem e_spec_TuneHigh (k : Nat) (a0 : Int) (a1z : Bool) (a1 : List (Int × Int × Int)) (a2z : Bool) (a2 : List Int) (a3z : Bool) (a3 : List Int) (a4z : Bool) (a4 : List Int) (b : Int) (c : Int) : go (k + 1) spec_TuneHigh [(.agg [(.int .i64 (a0)), (.arr false (a1z) (.r3 (a1))), (.arr false (a2z) (.ints .i64 (a2))), (.arr false (a3z) (.ints .i64 (a3))), (.arr false (a4z) (.ints .i64 (a4)))]), (.int .i64 (b)), (.int .i64 (c))] =
    (go k spec_StateOk [(.agg [(.int .i64 (a0)), (.arr false (a1z) (.r3 (a1))), (.arr false (a2z) (.ints .i64 (a2))), (.arr false (a3z) (.ints .i64 (a3))), (.arr false (a4z) (.ints .i64 (a4)))])]).bind fun r0 =>
  cond (!bit (nth r0 0))
  (some [(.int .i64 ((-1 : Int)))])
  (lp k spec_TuneHigh [] [] 4 k (s_spec_TuneHigh_4 b c ((-1 : Int)) a1z a1 a2z a2 a3z a3 a4z a4 a0)) := by kernel_rfl
theorem l_spec_TuneHigh_4 (k n : Nat) (fu : List (Nat × Nat)) (x0 : Int) (x1 : Int) (x2 : Int) (z3 : Bool) (l4 : List (Int × Int × Int)) (z5 : Bool) (l6 : List Int) (z7 : Bool) (l8 : List Int) (z9 : Bool) (l10 : List Int) (x11 : Int) : lp k spec_TuneHigh [] fu 4 (n + 1) (s_spec_TuneHigh_4 x0 x1 x2 z3 l4 z5 l6 z7 l8 z9 l10 x11) =
    cond (decide (x2 ≤ (30 : Int)))
  (cond (decide ((0 : Int) ≤ x2))
    (cond (decide ((0 : Int) ≤ IntKind.wrap IntKind.u64 x2))
      ((go k spec_l17Adapt [(.agg [(.int .i64 (x11)), (.arr false (z3) (.r3 (l4))), (.arr false (z5) (.ints .i64 (l6))), (.arr false (z7) (.ints .i64 (l8))), (.arr false (z9) (.ints .i64 (l10)))]), (.int .i64 (IntKind.wrap .i64 ((1 : Int) * (2 : Int) ^ shiftN .i64 (IntKind.wrap IntKind.u64 x2)))), (.int .i64 (x0))]).bind fun r0 =>
        cond (decide (nI (List.length (D.ints (D.cell 2 (nth r0 0)))) ≤ x1))
        (some [(.int .i64 (IntKind.wrap .i64 ((1 : Int) * (2 : Int) ^ shiftN .i64 (IntKind.wrap IntKind.u64 x2))))])
        (lp k spec_TuneHigh [] fu 4 n (s_spec_TuneHigh_4 x0 x1 (IntKind.wrap .i64 (x2 + (1 : Int))) z3 l4 z5 l6 z7 l8 z9 l10 x11)))
      (none))
    ((go k spec_l17Adapt [(.agg [(.int .i64 (x11)), (.arr false (z3) (.r3 (l4))), (.arr false (z5) (.ints .i64 (l6))), (.arr false (z7) (.ints .i64 (l8))), (.arr false (z9) (.ints .i64 (l10)))]), (.int .i64 ((0 : Int))), (.int .i64 (x0))]).bind fun r1 =>
      cond (decide (nI (List.length (D.ints (D.cell 2 (nth r1 0)))) ≤ x1))
      (some [(.int .i64 ((0 : Int)))])
      (lp k spec_TuneHigh [] fu 4 n (s_spec_TuneHigh_4 x0 x1 (IntKind.wrap .i64 (x2 + (1 : Int))) z3 l4 z5 l6 z7 l8 z9 l10 x11))))
  (some [(.int .i64 ((-1 : Int)))]) := by kernel_rfl
def s_impl_TuneHigh_4 (x0 : Int) (x1 : Int) (x2 : Int) (z3 : Bool) (l4 : List (Int × Int × Int)) (z5 : Bool) (l6 : List Int) (z7 : Bool) (l8 : List Int) (z9 : Bool) (l10 : List Int) (x11 : Int) : St := ⟨fill 26 [(1, (.int .i64 (x0))), (2, (.int .i64 (x1))), (3, (.ptr 4 (0) (0))), (7, (.int .i64 (x2)))], [], [(.arr false (z3) (.r3 (l4))), (.arr false (z5) (.ints .i64 (l6))), (.arr false (z7) (.ints .i64 (l8))), (.arr false (z9) (.ints .i64 (l10))), (.box true [(.int .i64 (x11)), (.sl 0 none), (.sl 1 none), (.sl 2 none), (.sl 3 none)])]⟩
theorem e_impl_TuneHigh (k : Nat) (a0 : Int) (a1z : Bool) (a1 : List (Int × Int × Int)) (a2z : Bool) (a2 : List Int) (a3z : Bool) (a3 : List Int) (a4z : Bool) (a4 : List Int) (b : Int) (c : Int) : go (k + 1) impl_TuneHigh [(.agg [(.int .i64 (a0)), (.arr false (a1z) (.r3 (a1))), (.arr false (a2z) (.ints .i64 (a2))), (.arr false (a3z) (.ints .i64 (a3))), (.arr false (a4z) (.ints .i64 (a4)))]), (.int .i64 (b)), (.int .i64 (c))] =
    (go k impl_StateOk [(.agg [(.int .i64 (a0)), (.arr false (a1z) (.r3 (a1))), (.arr false (a2z) (.ints .i64 (a2))), (.arr false (a3z) (.ints .i64 (a3))), (.arr false (a4z) (.ints .i64 (a4)))])]).bind fun r0 =>
  cond (!bit (nth r0 0))
  (some [(.int .i64 ((-1 : Int)))])
  (lp k impl_TuneHigh [] [] 4 k (s_impl_TuneHigh_4 b c ((0 : Int)) a1z a1 a2z a2 a3z a3 a4z a4 a0)) := by kernel_rfl
theorem l_impl_TuneHigh_4 (k n : Nat) (fu : List (Nat × Nat)) (x0 : Int) (x1 : Int) (x2 : Int) (z3 : Bool) (l4 : List (Int × Int × Int)) (z5 : Bool) (l6 : List Int) (z7 : Bool) (l8 : List Int) (z9 : Bool) (l10 : List Int) (x11 : Int) : lp k impl_TuneHigh [] fu 4 (n + 1) (s_impl_TuneHigh_4 x0 x1 x2 z3 l4 z5 l6 z7 l8 z9 l10 x11) =
    cond (decide (x2 ≤ (1073741824 : Int)))
  ((go k impl_AdaptState [(.agg [(.int .i64 (x11)), (.arr false (z3) (.r3 (l4))), (.arr false (z5) (.ints .i64 (l6))), (.arr false (z7) (.ints .i64 (l8))), (.arr false (z9) (.ints .i64 (l10)))]), (.int .i64 (x2)), (.int .i64 (x0))]).bind fun r0 =>
    cond (decide (nI (List.length (D.r3 (D.cell 1 (nth r0 0)))) ≤ x1))
    (some [(.int .i64 (x2))])
    (lp k impl_TuneHigh [] fu 4 n (s_impl_TuneHigh_4 x0 x1 (if IntKind.wrap .i64 ((2 : Int) * x2) > (1 : Int) then IntKind.wrap .i64 ((2 : Int) * x2) else (1 : Int)) z3 l4 z5 l6 z7 l8 z9 l10 x11)))
  (some [(.int .i64 ((-1 : Int)))]) := by kernel_rfl

end Go.Proofs.Ytfgccfajhedgdaa
