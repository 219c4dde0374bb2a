/- A tick, as the reference has it, one step each. -/
import Derived.Test.YtfgccfajhedgdaaXA
namespace Go.Proofs.Ytfgccfajhedgdaa
open Go.Ev
set_option linter.unusedVariables false
theorem e_spec_l09Pair (k : Nat) (a : Int) (b : Int) (c : Int) (d : Int) (e : Int) (f : Int) : go (k + 1) spec_l09Pair [(.int .i64 (a)), (.int .i64 (b)), (.int .i64 (c)), (.int .i64 (d)), (.int .i64 (e)), (.int .i64 (f))] =
    (go k spec_WidthOf [(.int .i64 (if f > e then f else e))]).bind fun r0 =>
  (go k spec_WidthOf [(.int .i64 (e))]).bind fun r1 =>
  (go k spec_WidthOf [(.int .i64 (f))]).bind fun r2 =>
  (go k spec_DivTrunc [(.int .i64 (IntKind.wrap .i64 (IntKind.wrap .i64 (a - b) * D.toInt (nth r0 0)))), (.int .i64 (IntKind.wrap .i64 ((32 : Int) * IntKind.wrap .i64 (D.toInt (nth r1 0) + D.toInt (nth r2 0)))))]).bind fun r3 =>
  some [(.int .i64 (if IntKind.wrap .i64 ((0 : Int) - IntKind.wrap .i64 (Int.tdiv d (4 : Int))) > if IntKind.wrap .i64 (Int.tdiv c (4 : Int)) < D.toInt (nth r3 0) then IntKind.wrap .i64 (Int.tdiv c (4 : Int)) else D.toInt (nth r3 0) then IntKind.wrap .i64 ((0 : Int) - IntKind.wrap .i64 (Int.tdiv d (4 : Int))) else if IntKind.wrap .i64 (Int.tdiv c (4 : Int)) < D.toInt (nth r3 0) then IntKind.wrap .i64 (Int.tdiv c (4 : Int)) else D.toInt (nth r3 0)))] := by kernel_rfl
theorem e_spec_l09Flux (k : Nat) (a0 : Int) (a1z : Bool) (a1 : List (Int × Int × Int)) (a2z : Bool) (a2 : List Int) (a3z : Bool) (a3 : List Int) (a4z : Bool) (a4 : List Int) (b : Int) : go (k + 1) spec_l09Flux [(.agg [(.int .i64 (a0)), (.arr false (a1z) (.r3 (a1))), (.arr false (a2z) (.ints .i64 (a2))), (.arr false (a3z) (.ints .i64 (a3))), (.arr false (a4z) (.ints .i64 (a4)))]), (.int .i64 (b))] =
    (go k spec_l09Surface [(.agg [(.int .i64 (a0)), (.arr false (a1z) (.r3 (a1))), (.arr false (a2z) (.ints .i64 (a2))), (.arr false (a3z) (.ints .i64 (a3))), (.arr false (a4z) (.ints .i64 (a4)))]), (.int .i64 (b))]).bind fun r0 =>
  (go k spec_l09Surface [(.agg [(.int .i64 (a0)), (.arr false (a1z) (.r3 (a1))), (.arr false (a2z) (.ints .i64 (a2))), (.arr false (a3z) (.ints .i64 (a3))), (.arr false (a4z) (.ints .i64 (a4)))]), (.int .i64 (IntKind.wrap .i64 (b + (1 : Int))))]).bind fun r1 =>
  cond (decide ((0 : Int) ≤ b) && decide (b < nI (List.length a2)))
  (cond (decide ((0 : Int) ≤ IntKind.wrap .i64 (b + (1 : Int))) && decide (IntKind.wrap .i64 (b + (1 : Int)) < nI (List.length a2)))
    (cond (decide ((0 : Int) ≤ b) && decide (b < nI (List.length a1)))
      (cond (decide ((0 : Int) ≤ IntKind.wrap .i64 (b + (1 : Int))) && decide (IntKind.wrap .i64 (b + (1 : Int)) < nI (List.length a1)))
        ((go k spec_l09Pair [(.int .i64 (D.toInt (nth r0 0))), (.int .i64 (D.toInt (nth r1 0))), (.int .i64 (List.getD a2 (Int.toNat b) (0 : Int))), (.int .i64 (List.getD a2 (Int.toNat (IntKind.wrap .i64 (b + (1 : Int)))) (0 : Int))), (.int .i64 (Prod.fst (Prod.snd (List.getD a1 (Int.toNat b) zz3)))), (.int .i64 (Prod.fst (Prod.snd (List.getD a1 (Int.toNat (IntKind.wrap .i64 (b + (1 : Int)))) zz3))))]).bind fun r2 =>
          some [(.int .i64 (D.toInt (nth r2 0)))])
        (none))
      (none))
    (none))
  (none) := by kernel_rfl
theorem e_spec_LeafOut (k : Nat) (a : Int) (b : Int) (c : Int) (d : Int) : go (k + 1) spec_LeafOut [(.int .i64 (a)), (.int .i64 (b)), (.int .i64 (c)), (.int .i64 (d))] =
    (go k spec_l01In [(.int .i64 (b)), (.int .i64 ((1 : Int))), (.int .i64 ((10000000 : Int)))]).bind fun r0 =>
  cond (!bit (nth r0 0))
  (some [(.int .i64 ((0 : Int))), (.int .i64 ((0 : Int)))])
  ((go k spec_l01In [(.int .i64 (a)), (.int .i64 ((0 : Int))), (.int .i64 (IntKind.wrap .i64 ((1000 : Int) * b)))]).bind fun r1 =>
    cond (!bit (nth r1 0))
    (some [(.int .i64 ((0 : Int))), (.int .i64 ((0 : Int)))])
    ((go k spec_l01In [(.int .i64 (c)), (.int .i64 ((0 : Int))), (.int .i64 (b))]).bind fun r2 =>
      cond (!bit (nth r2 0))
      (some [(.int .i64 ((0 : Int))), (.int .i64 ((0 : Int)))])
      ((go k spec_l01In [(.int .i64 (d)), (.int .i64 ((0 : Int))), (.int .i64 (IntKind.wrap .i64 (b - c)))]).bind fun r3 =>
        cond (!bit (nth r3 0))
        (some [(.int .i64 ((0 : Int))), (.int .i64 ((0 : Int)))])
        ((go k spec_ShareOut [(.int .i64 (a)), (.int .i64 (c)), (.int .i64 (b))]).bind fun r4 =>
          (go k spec_ShareOut [(.int .i64 (a)), (.int .i64 (IntKind.wrap .i64 (c + d))), (.int .i64 (b))]).bind fun r5 =>
          some [(.int .i64 (D.toInt (nth r4 0))), (.int .i64 (IntKind.wrap .i64 (D.toInt (nth r5 0) - D.toInt (nth r4 0))))])))) := by kernel_rfl
theorem e_spec_ShareOut (k : Nat) (a : Int) (b : Int) (c : Int) : go (k + 1) spec_ShareOut [(.int .i64 (a)), (.int .i64 (b)), (.int .i64 (c))] =
    (go k spec_l01In [(.int .i64 (c)), (.int .i64 ((1 : Int))), (.int .i64 ((10000000 : Int)))]).bind fun r0 =>
  cond (!bit (nth r0 0))
  (some [(.int .i64 ((0 : Int)))])
  ((go k spec_l01In [(.int .i64 (b)), (.int .i64 ((0 : Int))), (.int .i64 (c))]).bind fun r1 =>
    cond (!bit (nth r1 0))
    (some [(.int .i64 ((0 : Int)))])
    ((go k spec_l01In [(.int .i64 (a)), (.int .i64 ((0 : Int))), (.int .i64 (IntKind.wrap .i64 ((1000 : Int) * c)))]).bind fun r2 =>
      cond (!bit (nth r2 0))
      (some [(.int .i64 ((0 : Int)))])
      (cond (!decide (c = (0 : Int)))
        (some [(.int .i64 (IntKind.wrap .i64 (Int.tdiv (IntKind.wrap .i64 (a * b)) c)))])
        (none)))) := by kernel_rfl
theorem e_spec_DivTrunc (k : Nat) (a : Int) (b : Int) : go (k + 1) spec_DivTrunc [(.int .i64 (a)), (.int .i64 (b))] =
    cond (decide (b ≤ (0 : Int)))
  (some [(.int .i64 ((0 : Int)))])
  (cond (!decide (b = (0 : Int)))
    (some [(.int .i64 (IntKind.wrap .i64 (Int.tdiv a b)))])
    (none)) := by kernel_rfl
theorem e_spec_StepState (k : Nat) (a0 : Int) (a1z : Bool) (a1 : List (Int × Int × Int)) (a2z : Bool) (a2 : List Int) (a3z : Bool) (a3 : List Int) (a4z : Bool) (a4 : List Int) (b : Int) : go (k + 1) spec_StepState [(.agg [(.int .i64 (a0)), (.arr false (a1z) (.r3 (a1))), (.arr false (a2z) (.ints .i64 (a2))), (.arr false (a3z) (.ints .i64 (a3))), (.arr false (a4z) (.ints .i64 (a4)))]), (.int .i64 (b))] =
    (go k spec_StateOk [(.agg [(.int .i64 (a0)), (.arr false (a1z) (.r3 (a1))), (.arr false (a2z) (.ints .i64 (a2))), (.arr false (a3z) (.ints .i64 (a3))), (.arr false (a4z) (.ints .i64 (a4)))])]).bind fun r0 =>
  cond (!bit (nth r0 0))
  ((go k spec_l07Copy [(.agg [(.int .i64 (a0)), (.arr false (a1z) (.r3 (a1))), (.arr false (a2z) (.ints .i64 (a2))), (.arr false (a3z) (.ints .i64 (a3))), (.arr false (a4z) (.ints .i64 (a4)))])]).bind fun r1 =>
    some [(.agg [(.int .i64 (D.toInt (D.cell 0 (nth r1 0)))), (.arr true (D.nil (D.cell 1 (nth r1 0))) (.r3 (D.r3 (D.cell 1 (nth r1 0))))), (.arr true (D.nil (D.cell 2 (nth r1 0))) (.ints .i64 (D.ints (D.cell 2 (nth r1 0))))), (.arr true (D.nil (D.cell 3 (nth r1 0))) (.ints .i64 (D.ints (D.cell 3 (nth r1 0))))), (.arr true (D.nil (D.cell 4 (nth r1 0))) (.ints .i64 (D.ints (D.cell 4 (nth r1 0)))))])])
  (cond (decide (b < (0 : Int)))
    ((go k spec_l07Copy [(.agg [(.int .i64 (a0)), (.arr false (a1z) (.r3 (a1))), (.arr false (a2z) (.ints .i64 (a2))), (.arr false (a3z) (.ints .i64 (a3))), (.arr false (a4z) (.ints .i64 (a4)))])]).bind fun r2 =>
      some [(.agg [(.int .i64 (D.toInt (D.cell 0 (nth r2 0)))), (.arr true (D.nil (D.cell 1 (nth r2 0))) (.r3 (D.r3 (D.cell 1 (nth r2 0))))), (.arr true (D.nil (D.cell 2 (nth r2 0))) (.ints .i64 (D.ints (D.cell 2 (nth r2 0))))), (.arr true (D.nil (D.cell 3 (nth r2 0))) (.ints .i64 (D.ints (D.cell 3 (nth r2 0))))), (.arr true (D.nil (D.cell 4 (nth r2 0))) (.ints .i64 (D.ints (D.cell 4 (nth r2 0)))))])])
    ((go k spec_l11Step [(.agg [(.int .i64 (a0)), (.arr false (a1z) (.r3 (a1))), (.arr false (a2z) (.ints .i64 (a2))), (.arr false (a3z) (.ints .i64 (a3))), (.arr false (a4z) (.ints .i64 (a4)))]), (.int .i64 (b))]).bind fun r3 =>
      some [(.agg [(.int .i64 (D.toInt (D.cell 0 (nth r3 0)))), (.arr true (D.nil (D.cell 1 (nth r3 0))) (.r3 (D.r3 (D.cell 1 (nth r3 0))))), (.arr true (D.nil (D.cell 2 (nth r3 0))) (.ints .i64 (D.ints (D.cell 2 (nth r3 0))))), (.arr true (D.nil (D.cell 3 (nth r3 0))) (.ints .i64 (D.ints (D.cell 3 (nth r3 0))))), (.arr true (D.nil (D.cell 4 (nth r3 0))) (.ints .i64 (D.ints (D.cell 4 (nth r3 0)))))])])) := by kernel_rfl
def s_spec_l11Step_11 (x0 : Int) (z1 : Bool) (l2 : List (Int × Int × Int)) (z3 : Bool) (l4 : List Int) (z5 : Bool) (l6 : List Int) (z7 : Bool) (l8 : List Int) (x9 : Int) (z10 : Bool) (l11 : List (Int × Int × Int)) (z12 : Bool) (l13 : List Int) (z14 : Bool) (l15 : List Int) (z16 : Bool) (l17 : List Int) (x18 : Int) (z19 : Bool) (l20 : List (Int × Int × Int)) (z21 : Bool) (l22 : List Int) (z23 : Bool) (l24 : List Int) (z25 : Bool) (l26 : List Int) (x27 : Int) (z28 : Bool) (l29 : List Int) : St := ⟨fill 151 [(2, (.ptr 4 (0) (0))), (4, (.ptr 9 (0) (0))), (5, (.ptr 14 (0) (0))), (6, (.sl 15 none)), (8, (.int .i64 (x0)))], [], [(.arr false (z1) (.r3 (l2))), (.arr false (z3) (.ints .i64 (l4))), (.arr false (z5) (.ints .i64 (l6))), (.arr false (z7) (.ints .i64 (l8))), (.box true [(.int .i64 (x9)), (.sl 0 none), (.sl 1 none), (.sl 2 none), (.sl 3 none)]), (.arr true (z10) (.r3 (l11))), (.arr true (z12) (.ints .i64 (l13))), (.arr true (z14) (.ints .i64 (l15))), (.arr true (z16) (.ints .i64 (l17))), (.box true [(.int .i64 (x18)), (.sl 5 none), (.sl 6 none), (.sl 7 none), (.sl 8 none)]), (.arr true (z19) (.r3 (l20))), (.arr true (z21) (.ints .i64 (l22))), (.arr true (z23) (.ints .i64 (l24))), (.arr true (z25) (.ints .i64 (l26))), (.box true [(.int .i64 (x27)), (.sl 10 none), (.sl 11 none), (.sl 12 none), (.sl 13 none)]), (.arr true (z28) (.ints .i64 (l29)))]⟩
def s_spec_l11Step_4 (x0 : Int) (x1 : Int) (z2 : Bool) (l3 : List (Int × Int × Int)) (z4 : Bool) (l5 : List Int) (z6 : Bool) (l7 : List Int) (z8 : Bool) (l9 : List Int) (x10 : Int) (z11 : Bool) (l12 : List (Int × Int × Int)) (z13 : Bool) (l14 : List Int) (z15 : Bool) (l16 : List Int) (z17 : Bool) (l18 : List Int) (x19 : Int) (z20 : Bool) (l21 : List (Int × Int × Int)) (z22 : Bool) (l23 : List Int) (z24 : Bool) (l25 : List Int) (z26 : Bool) (l27 : List Int) (x28 : Int) (z29 : Bool) (l30 : List Int) : St := ⟨fill 151 [(1, (.int .i64 (x0))), (2, (.ptr 4 (0) (0))), (4, (.ptr 9 (0) (0))), (5, (.ptr 14 (0) (0))), (6, (.sl 15 none)), (7, (.int .i64 (x1)))], [], [(.arr false (z2) (.r3 (l3))), (.arr false (z4) (.ints .i64 (l5))), (.arr false (z6) (.ints .i64 (l7))), (.arr false (z8) (.ints .i64 (l9))), (.box true [(.int .i64 (x10)), (.sl 0 none), (.sl 1 none), (.sl 2 none), (.sl 3 none)]), (.arr true (z11) (.r3 (l12))), (.arr true (z13) (.ints .i64 (l14))), (.arr true (z15) (.ints .i64 (l16))), (.arr true (z17) (.ints .i64 (l18))), (.box true [(.int .i64 (x19)), (.sl 5 none), (.sl 6 none), (.sl 7 none), (.sl 8 none)]), (.arr true (z20) (.r3 (l21))), (.arr true (z22) (.ints .i64 (l23))), (.arr true (z24) (.ints .i64 (l25))), (.arr true (z26) (.ints .i64 (l27))), (.box true [(.int .i64 (x28)), (.sl 10 none), (.sl 11 none), (.sl 12 none), (.sl 13 none)]), (.arr true (z29) (.ints .i64 (l30)))]⟩
theorem e_spec_l11Step (k : Nat) (a0 : Int) (a1z : Bool) (a1 : List (Int × Int × Int)) (a2z : Bool) (a2 : List Int) (a3z : Bool) (a3 : List Int) (a4z : Bool) (a4 : List Int) (b : Int) : go (k + 1) spec_l11Step [(.agg [(.int .i64 (a0)), (.arr false (a1z) (.r3 (a1))), (.arr false (a2z) (.ints .i64 (a2))), (.arr false (a3z) (.ints .i64 (a3))), (.arr false (a4z) (.ints .i64 (a4)))]), (.int .i64 (b))] =
    (go k spec_l07Copy [(.agg [(.int .i64 (a0)), (.arr false (a1z) (.r3 (a1))), (.arr false (a2z) (.ints .i64 (a2))), (.arr false (a3z) (.ints .i64 (a3))), (.arr false (a4z) (.ints .i64 (a4)))])]).bind fun r0 =>
  cond (decide ((0 : Int) ≤ nI (List.length a2)) && decide (nI (List.length a2) ≤ nI (List.length a2)) && decide (nI (List.length a2) ≤ nI bigLen))
  (lp k spec_l11Step [] [] 4 k (s_spec_l11Step_4 b ((0 : Int)) a1z a1 a2z a2 a3z a3 a4z a4 a0 true ([]) true ([]) true ([]) true ([]) ((0 : Int)) (D.nil (D.cell 1 (nth r0 0))) (D.r3 (D.cell 1 (nth r0 0))) (D.nil (D.cell 2 (nth r0 0))) (D.ints (D.cell 2 (nth r0 0))) (D.nil (D.cell 3 (nth r0 0))) (D.ints (D.cell 3 (nth r0 0))) (D.nil (D.cell 4 (nth r0 0))) (D.ints (D.cell 4 (nth r0 0))) (D.toInt (D.cell 0 (nth r0 0))) false (List.replicate (Int.toNat (nI (List.length a2))) (0 : Int))))
  (none) := by kernel_rfl
theorem l_spec_l11Step_11 (k n : Nat) (fu : List (Nat × Nat)) (x0 : Int) (z1 : Bool) (l2 : List (Int × Int × Int)) (z3 : Bool) (l4 : List Int) (z5 : Bool) (l6 : List Int) (z7 : Bool) (l8 : List Int) (x9 : Int) (z10 : Bool) (l11 : List (Int × Int × Int)) (z12 : Bool) (l13 : List Int) (z14 : Bool) (l15 : List Int) (z16 : Bool) (l17 : List Int) (x18 : Int) (z19 : Bool) (l20 : List (Int × Int × Int)) (z21 : Bool) (l22 : List Int) (z23 : Bool) (l24 : List Int) (z25 : Bool) (l26 : List Int) (x27 : Int) (z28 : Bool) (l29 : List Int) : lp k spec_l11Step [] fu 11 (n + 1) (s_spec_l11Step_11 x0 z1 l2 z3 l4 z5 l6 z7 l8 x9 z10 l11 z12 l13 z14 l15 z16 l17 x18 z19 l20 z21 l22 z23 l24 z25 l26 x27 z28 l29) =
    cond (decide (x0 < nI (List.length l4)))
  (cond (decide ((0 : Int) ≤ x0) && decide (x0 < nI (List.length l29)))
    (cond (decide ((0 : Int) < x0))
      (cond (decide ((0 : Int) ≤ IntKind.wrap .i64 (x0 - (1 : Int))) && decide (IntKind.wrap .i64 (x0 - (1 : Int)) < nI (List.length l29)))
        (cond (decide ((0 : Int) ≤ x0) && decide (x0 < nI (List.length l6)))
          (cond (decide ((0 : Int) ≤ x0) && decide (x0 < nI (List.length l4)))
            ((go k spec_LeafOut [(.int .i64 (List.getD l6 (Int.toNat x0) (0 : Int))), (.int .i64 (List.getD l4 (Int.toNat x0) (0 : Int))), (.int .i64 (if (0 : Int) > List.getD l29 (Int.toNat x0) (0 : Int) then (0 : Int) else List.getD l29 (Int.toNat x0) (0 : Int))), (.int .i64 (if (0 : Int) > IntKind.wrap .i64 ((0 : Int) - List.getD l29 (Int.toNat (IntKind.wrap .i64 (x0 - (1 : Int)))) (0 : Int)) then (0 : Int) else IntKind.wrap .i64 ((0 : Int) - List.getD l29 (Int.toNat (IntKind.wrap .i64 (x0 - (1 : Int)))) (0 : Int))))]).bind fun r0 =>
              cond (decide ((0 : Int) ≤ x0) && decide (x0 < nI (List.length l24)))
              (cond (decide ((0 : Int) ≤ x0) && decide (x0 < nI (List.length l24)))
                (cond (decide ((0 : Int) < if (0 : Int) > List.getD l29 (Int.toNat x0) (0 : Int) then (0 : Int) else List.getD l29 (Int.toNat x0) (0 : Int)))
                  (cond (decide ((0 : Int) ≤ IntKind.wrap .i64 (x0 + (1 : Int))) && decide (IntKind.wrap .i64 (x0 + (1 : Int)) < nI (List.length (List.set l24 (Int.toNat x0) (IntKind.wrap .i64 (IntKind.wrap .i64 (List.getD l24 (Int.toNat x0) (0 : Int) - D.toInt (nth r0 0)) - D.toInt (nth r0 1)))))))
                    (cond (decide ((0 : Int) ≤ IntKind.wrap .i64 (x0 + (1 : Int))) && decide (IntKind.wrap .i64 (x0 + (1 : Int)) < nI (List.length (List.set l24 (Int.toNat x0) (IntKind.wrap .i64 (IntKind.wrap .i64 (List.getD l24 (Int.toNat x0) (0 : Int) - D.toInt (nth r0 0)) - D.toInt (nth r0 1)))))))
                      (cond (decide ((0 : Int) < if (0 : Int) > IntKind.wrap .i64 ((0 : Int) - List.getD l29 (Int.toNat (IntKind.wrap .i64 (x0 - (1 : Int)))) (0 : Int)) then (0 : Int) else IntKind.wrap .i64 ((0 : Int) - List.getD l29 (Int.toNat (IntKind.wrap .i64 (x0 - (1 : Int)))) (0 : Int))))
                        (cond (decide ((0 : Int) ≤ IntKind.wrap .i64 (x0 - (1 : Int))) && decide (IntKind.wrap .i64 (x0 - (1 : Int)) < nI (List.length (List.set (List.set l24 (Int.toNat x0) (IntKind.wrap .i64 (IntKind.wrap .i64 (List.getD l24 (Int.toNat x0) (0 : Int) - D.toInt (nth r0 0)) - D.toInt (nth r0 1)))) (Int.toNat (IntKind.wrap .i64 (x0 + (1 : Int)))) (IntKind.wrap .i64 (List.getD (List.set l24 (Int.toNat x0) (IntKind.wrap .i64 (IntKind.wrap .i64 (List.getD l24 (Int.toNat x0) (0 : Int) - D.toInt (nth r0 0)) - D.toInt (nth r0 1)))) (Int.toNat (IntKind.wrap .i64 (x0 + (1 : Int)))) (0 : Int) + D.toInt (nth r0 0)))))))
                          (cond (decide ((0 : Int) ≤ IntKind.wrap .i64 (x0 - (1 : Int))) && decide (IntKind.wrap .i64 (x0 - (1 : Int)) < nI (List.length (List.set (List.set l24 (Int.toNat x0) (IntKind.wrap .i64 (IntKind.wrap .i64 (List.getD l24 (Int.toNat x0) (0 : Int) - D.toInt (nth r0 0)) - D.toInt (nth r0 1)))) (Int.toNat (IntKind.wrap .i64 (x0 + (1 : Int)))) (IntKind.wrap .i64 (List.getD (List.set l24 (Int.toNat x0) (IntKind.wrap .i64 (IntKind.wrap .i64 (List.getD l24 (Int.toNat x0) (0 : Int) - D.toInt (nth r0 0)) - D.toInt (nth r0 1)))) (Int.toNat (IntKind.wrap .i64 (x0 + (1 : Int)))) (0 : Int) + D.toInt (nth r0 0)))))))
                            (lp k spec_l11Step [] fu 11 n (s_spec_l11Step_11 (IntKind.wrap .i64 (x0 + (1 : Int))) z1 l2 z3 l4 z5 l6 z7 l8 x9 z10 l11 z12 l13 z14 l15 z16 l17 x18 z19 l20 z21 l22 z23 (List.set (List.set (List.set l24 (Int.toNat x0) (IntKind.wrap .i64 (IntKind.wrap .i64 (List.getD l24 (Int.toNat x0) (0 : Int) - D.toInt (nth r0 0)) - D.toInt (nth r0 1)))) (Int.toNat (IntKind.wrap .i64 (x0 + (1 : Int)))) (IntKind.wrap .i64 (List.getD (List.set l24 (Int.toNat x0) (IntKind.wrap .i64 (IntKind.wrap .i64 (List.getD l24 (Int.toNat x0) (0 : Int) - D.toInt (nth r0 0)) - D.toInt (nth r0 1)))) (Int.toNat (IntKind.wrap .i64 (x0 + (1 : Int)))) (0 : Int) + D.toInt (nth r0 0)))) (Int.toNat (IntKind.wrap .i64 (x0 - (1 : Int)))) (IntKind.wrap .i64 (List.getD (List.set (List.set l24 (Int.toNat x0) (IntKind.wrap .i64 (IntKind.wrap .i64 (List.getD l24 (Int.toNat x0) (0 : Int) - D.toInt (nth r0 0)) - D.toInt (nth r0 1)))) (Int.toNat (IntKind.wrap .i64 (x0 + (1 : Int)))) (IntKind.wrap .i64 (List.getD (List.set l24 (Int.toNat x0) (IntKind.wrap .i64 (IntKind.wrap .i64 (List.getD l24 (Int.toNat x0) (0 : Int) - D.toInt (nth r0 0)) - D.toInt (nth r0 1)))) (Int.toNat (IntKind.wrap .i64 (x0 + (1 : Int)))) (0 : Int) + D.toInt (nth r0 0)))) (Int.toNat (IntKind.wrap .i64 (x0 - (1 : Int)))) (0 : Int) + D.toInt (nth r0 1)))) z25 l26 x27 z28 l29))
                            (none))
                          (none))
                        (lp k spec_l11Step [] fu 11 n (s_spec_l11Step_11 (IntKind.wrap .i64 (x0 + (1 : Int))) z1 l2 z3 l4 z5 l6 z7 l8 x9 z10 l11 z12 l13 z14 l15 z16 l17 x18 z19 l20 z21 l22 z23 (List.set (List.set l24 (Int.toNat x0) (IntKind.wrap .i64 (IntKind.wrap .i64 (List.getD l24 (Int.toNat x0) (0 : Int) - D.toInt (nth r0 0)) - D.toInt (nth r0 1)))) (Int.toNat (IntKind.wrap .i64 (x0 + (1 : Int)))) (IntKind.wrap .i64 (List.getD (List.set l24 (Int.toNat x0) (IntKind.wrap .i64 (IntKind.wrap .i64 (List.getD l24 (Int.toNat x0) (0 : Int) - D.toInt (nth r0 0)) - D.toInt (nth r0 1)))) (Int.toNat (IntKind.wrap .i64 (x0 + (1 : Int)))) (0 : Int) + D.toInt (nth r0 0)))) z25 l26 x27 z28 l29)))
                      (none))
                    (none))
                  (cond (decide ((0 : Int) < if (0 : Int) > IntKind.wrap .i64 ((0 : Int) - List.getD l29 (Int.toNat (IntKind.wrap .i64 (x0 - (1 : Int)))) (0 : Int)) then (0 : Int) else IntKind.wrap .i64 ((0 : Int) - List.getD l29 (Int.toNat (IntKind.wrap .i64 (x0 - (1 : Int)))) (0 : Int))))
                    (cond (decide ((0 : Int) ≤ IntKind.wrap .i64 (x0 - (1 : Int))) && decide (IntKind.wrap .i64 (x0 - (1 : Int)) < nI (List.length (List.set l24 (Int.toNat x0) (IntKind.wrap .i64 (IntKind.wrap .i64 (List.getD l24 (Int.toNat x0) (0 : Int) - D.toInt (nth r0 0)) - D.toInt (nth r0 1)))))))
                      (cond (decide ((0 : Int) ≤ IntKind.wrap .i64 (x0 - (1 : Int))) && decide (IntKind.wrap .i64 (x0 - (1 : Int)) < nI (List.length (List.set l24 (Int.toNat x0) (IntKind.wrap .i64 (IntKind.wrap .i64 (List.getD l24 (Int.toNat x0) (0 : Int) - D.toInt (nth r0 0)) - D.toInt (nth r0 1)))))))
                        (lp k spec_l11Step [] fu 11 n (s_spec_l11Step_11 (IntKind.wrap .i64 (x0 + (1 : Int))) z1 l2 z3 l4 z5 l6 z7 l8 x9 z10 l11 z12 l13 z14 l15 z16 l17 x18 z19 l20 z21 l22 z23 (List.set (List.set l24 (Int.toNat x0) (IntKind.wrap .i64 (IntKind.wrap .i64 (List.getD l24 (Int.toNat x0) (0 : Int) - D.toInt (nth r0 0)) - D.toInt (nth r0 1)))) (Int.toNat (IntKind.wrap .i64 (x0 - (1 : Int)))) (IntKind.wrap .i64 (List.getD (List.set l24 (Int.toNat x0) (IntKind.wrap .i64 (IntKind.wrap .i64 (List.getD l24 (Int.toNat x0) (0 : Int) - D.toInt (nth r0 0)) - D.toInt (nth r0 1)))) (Int.toNat (IntKind.wrap .i64 (x0 - (1 : Int)))) (0 : Int) + D.toInt (nth r0 1)))) z25 l26 x27 z28 l29))
                        (none))
                      (none))
                    (lp k spec_l11Step [] fu 11 n (s_spec_l11Step_11 (IntKind.wrap .i64 (x0 + (1 : Int))) z1 l2 z3 l4 z5 l6 z7 l8 x9 z10 l11 z12 l13 z14 l15 z16 l17 x18 z19 l20 z21 l22 z23 (List.set l24 (Int.toNat x0) (IntKind.wrap .i64 (IntKind.wrap .i64 (List.getD l24 (Int.toNat x0) (0 : Int) - D.toInt (nth r0 0)) - D.toInt (nth r0 1)))) z25 l26 x27 z28 l29))))
                (none))
              (none))
            (none))
          (none))
        (none))
      (cond (decide ((0 : Int) ≤ x0) && decide (x0 < nI (List.length l6)))
        (cond (decide ((0 : Int) ≤ x0) && decide (x0 < nI (List.length l4)))
          ((go k spec_LeafOut [(.int .i64 (List.getD l6 (Int.toNat x0) (0 : Int))), (.int .i64 (List.getD l4 (Int.toNat x0) (0 : Int))), (.int .i64 (if (0 : Int) > List.getD l29 (Int.toNat x0) (0 : Int) then (0 : Int) else List.getD l29 (Int.toNat x0) (0 : Int))), (.int .i64 ((0 : Int)))]).bind fun r1 =>
            cond (decide ((0 : Int) ≤ x0) && decide (x0 < nI (List.length l24)))
            (cond (decide ((0 : Int) ≤ x0) && decide (x0 < nI (List.length l24)))
              (cond (decide ((0 : Int) < if (0 : Int) > List.getD l29 (Int.toNat x0) (0 : Int) then (0 : Int) else List.getD l29 (Int.toNat x0) (0 : Int)))
                (cond (decide ((0 : Int) ≤ IntKind.wrap .i64 (x0 + (1 : Int))) && decide (IntKind.wrap .i64 (x0 + (1 : Int)) < nI (List.length (List.set l24 (Int.toNat x0) (IntKind.wrap .i64 (IntKind.wrap .i64 (List.getD l24 (Int.toNat x0) (0 : Int) - D.toInt (nth r1 0)) - D.toInt (nth r1 1)))))))
                  (cond (decide ((0 : Int) ≤ IntKind.wrap .i64 (x0 + (1 : Int))) && decide (IntKind.wrap .i64 (x0 + (1 : Int)) < nI (List.length (List.set l24 (Int.toNat x0) (IntKind.wrap .i64 (IntKind.wrap .i64 (List.getD l24 (Int.toNat x0) (0 : Int) - D.toInt (nth r1 0)) - D.toInt (nth r1 1)))))))
                    (lp k spec_l11Step [] fu 11 n (s_spec_l11Step_11 (IntKind.wrap .i64 (x0 + (1 : Int))) z1 l2 z3 l4 z5 l6 z7 l8 x9 z10 l11 z12 l13 z14 l15 z16 l17 x18 z19 l20 z21 l22 z23 (List.set (List.set l24 (Int.toNat x0) (IntKind.wrap .i64 (IntKind.wrap .i64 (List.getD l24 (Int.toNat x0) (0 : Int) - D.toInt (nth r1 0)) - D.toInt (nth r1 1)))) (Int.toNat (IntKind.wrap .i64 (x0 + (1 : Int)))) (IntKind.wrap .i64 (List.getD (List.set l24 (Int.toNat x0) (IntKind.wrap .i64 (IntKind.wrap .i64 (List.getD l24 (Int.toNat x0) (0 : Int) - D.toInt (nth r1 0)) - D.toInt (nth r1 1)))) (Int.toNat (IntKind.wrap .i64 (x0 + (1 : Int)))) (0 : Int) + D.toInt (nth r1 0)))) z25 l26 x27 z28 l29))
                    (none))
                  (none))
                (lp k spec_l11Step [] fu 11 n (s_spec_l11Step_11 (IntKind.wrap .i64 (x0 + (1 : Int))) z1 l2 z3 l4 z5 l6 z7 l8 x9 z10 l11 z12 l13 z14 l15 z16 l17 x18 z19 l20 z21 l22 z23 (List.set l24 (Int.toNat x0) (IntKind.wrap .i64 (IntKind.wrap .i64 (List.getD l24 (Int.toNat x0) (0 : Int) - D.toInt (nth r1 0)) - D.toInt (nth r1 1)))) z25 l26 x27 z28 l29)))
              (none))
            (none))
          (none))
        (none)))
    (none))
  (some [(.agg [(.int .i64 (x27)), (.arr true (z19) (.r3 (l20))), (.arr true (z21) (.ints .i64 (l22))), (.arr true (z23) (.ints .i64 (l24))), (.arr true (z25) (.ints .i64 (l26)))])]) := by kernel_rfl
theorem l_spec_l11Step_4 (k n : Nat) (fu : List (Nat × Nat)) (x0 : Int) (x1 : Int) (z2 : Bool) (l3 : List (Int × Int × Int)) (z4 : Bool) (l5 : List Int) (z6 : Bool) (l7 : List Int) (z8 : Bool) (l9 : List Int) (x10 : Int) (z11 : Bool) (l12 : List (Int × Int × Int)) (z13 : Bool) (l14 : List Int) (z15 : Bool) (l16 : List Int) (z17 : Bool) (l18 : List Int) (x19 : Int) (z20 : Bool) (l21 : List (Int × Int × Int)) (z22 : Bool) (l23 : List Int) (z24 : Bool) (l25 : List Int) (z26 : Bool) (l27 : List Int) (x28 : Int) (z29 : Bool) (l30 : List Int) : lp k spec_l11Step [] fu 4 (n + 1) (s_spec_l11Step_4 x0 x1 z2 l3 z4 l5 z6 l7 z8 l9 x10 z11 l12 z13 l14 z15 l16 z17 l18 x19 z20 l21 z22 l23 z24 l25 z26 l27 x28 z29 l30) =
    cond (decide (IntKind.wrap .i64 (x1 + (1 : Int)) < nI (List.length l5)))
  ((go k spec_l05Face [(.agg [(.int .i64 (x10)), (.arr false (z2) (.r3 (l3)))]), (.int .i64 (x1))]).bind fun r0 =>
    (go k spec_IsActive [(.int .i64 (x0)), (.int .i64 (D.toInt (nth r0 0)))]).bind fun r1 =>
    cond (!bit (nth r1 0))
    (lp k spec_l11Step [] fu 4 n (s_spec_l11Step_4 x0 (IntKind.wrap .i64 (x1 + (1 : Int))) z2 l3 z4 l5 z6 l7 z8 l9 x10 z11 l12 z13 l14 z15 l16 z17 l18 x19 z20 l21 z22 l23 z24 l25 z26 l27 x28 z29 l30))
    ((go k spec_l09Flux [(.agg [(.int .i64 (x10)), (.arr false (z2) (.r3 (l3))), (.arr false (z4) (.ints .i64 (l5))), (.arr false (z6) (.ints .i64 (l7))), (.arr false (z8) (.ints .i64 (l9)))]), (.int .i64 (x1))]).bind fun r2 =>
      cond (decide ((0 : Int) ≤ x1) && decide (x1 < nI (List.length l30)))
      (cond (decide ((0 : Int) ≤ x1) && decide (x1 < nI (List.length l23)))
        (cond (decide ((0 : Int) ≤ x1) && decide (x1 < nI (List.length (List.set l30 (Int.toNat x1) (D.toInt (nth r2 0))))))
          (cond (decide ((0 : Int) ≤ x1) && decide (x1 < nI (List.length l23)))
            (cond (decide ((0 : Int) ≤ IntKind.wrap .i64 (x1 + (1 : Int))) && decide (IntKind.wrap .i64 (x1 + (1 : Int)) < nI (List.length (List.set l23 (Int.toNat x1) (IntKind.wrap .i64 (List.getD l23 (Int.toNat x1) (0 : Int) - List.getD (List.set l30 (Int.toNat x1) (D.toInt (nth r2 0))) (Int.toNat x1) (0 : Int)))))))
              (cond (decide ((0 : Int) ≤ x1) && decide (x1 < nI (List.length (List.set l30 (Int.toNat x1) (D.toInt (nth r2 0))))))
                (cond (decide ((0 : Int) ≤ IntKind.wrap .i64 (x1 + (1 : Int))) && decide (IntKind.wrap .i64 (x1 + (1 : Int)) < nI (List.length (List.set l23 (Int.toNat x1) (IntKind.wrap .i64 (List.getD l23 (Int.toNat x1) (0 : Int) - List.getD (List.set l30 (Int.toNat x1) (D.toInt (nth r2 0))) (Int.toNat x1) (0 : Int)))))))
                  (lp k spec_l11Step [] fu 4 n (s_spec_l11Step_4 x0 (IntKind.wrap .i64 (x1 + (1 : Int))) z2 l3 z4 l5 z6 l7 z8 l9 x10 z11 l12 z13 l14 z15 l16 z17 l18 x19 z20 l21 z22 (List.set (List.set l23 (Int.toNat x1) (IntKind.wrap .i64 (List.getD l23 (Int.toNat x1) (0 : Int) - List.getD (List.set l30 (Int.toNat x1) (D.toInt (nth r2 0))) (Int.toNat x1) (0 : Int)))) (Int.toNat (IntKind.wrap .i64 (x1 + (1 : Int)))) (IntKind.wrap .i64 (List.getD (List.set l23 (Int.toNat x1) (IntKind.wrap .i64 (List.getD l23 (Int.toNat x1) (0 : Int) - List.getD (List.set l30 (Int.toNat x1) (D.toInt (nth r2 0))) (Int.toNat x1) (0 : Int)))) (Int.toNat (IntKind.wrap .i64 (x1 + (1 : Int)))) (0 : Int) + List.getD (List.set l30 (Int.toNat x1) (D.toInt (nth r2 0))) (Int.toNat x1) (0 : Int)))) z24 l25 z26 l27 x28 z29 (List.set l30 (Int.toNat x1) (D.toInt (nth r2 0)))))
                  (none))
                (none))
              (none))
            (none))
          (none))
        (none))
      (none)))
  (lp k spec_l11Step [] fu 11 k (s_spec_l11Step_11 ((0 : Int)) z2 l3 z4 l5 z6 l7 z8 l9 x10 z11 l12 z13 l14 z15 l16 z17 l18 x19 z20 l21 z22 l23 z24 l25 z26 l27 x28 z29 l30)) := by kernel_rfl

end Go.Proofs.Ytfgccfajhedgdaa
