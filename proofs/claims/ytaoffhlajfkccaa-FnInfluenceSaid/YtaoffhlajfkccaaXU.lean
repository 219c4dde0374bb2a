/- What comparing functions of states compute, one step each (second part). -/
import Derived.Test.YtaoffhlajfkccaaXA
namespace Go.Proofs.Ytaoffhlajfkccaa
open Go.Ev
set_option linter.unusedVariables false
def s_impl_InEnvelope_4 (x0 : Int) (x1 : Int) (z2 : Bool) (l3 : List Int) (z4 : Bool) (l5 : List Int) (z6 : Bool) (l7 : List Int) : St := ⟨fill 48 [(1, (.sl 0 none)), (2, (.sl 1 none)), (29, (.sl 2 none)), (30, (.int .i64 (x0))), (31, (.int .i64 (x1)))], [], [(.arr false (z2) (.ints .i64 (l3))), (.arr false (z4) (.ints .i64 (l5))), (.arr false (z6) (.ints .i64 (l7)))]⟩
theorem e_impl_InEnvelope (k : Nat) (a0 : Int) (a1z : Bool) (a1 : List (Int × Int × Int)) (a2z : Bool) (a2 : List Int) (a3z : Bool) (a3 : List Int) (a4z : Bool) (a4 : List Int) (bz : Bool) (b : List Int) (cz : Bool) (c : List Int) : go (k + 1) impl_InEnvelope [(.agg [(.int .i64 (a0)), (.arr false (a1z) (.r3 (a1))), (.arr false (a2z) (.ints .i64 (a2))), (.arr false (a3z) (.ints .i64 (a3))), (.arr false (a4z) (.ints .i64 (a4)))]), (.arr false (bz) (.ints .i64 (b))), (.arr false (cz) (.ints .i64 (c)))] =
    (go k impl_StateOk [(.agg [(.int .i64 (a0)), (.arr false (a1z) (.r3 (a1))), (.arr false (a2z) (.ints .i64 (a2))), (.arr false (a3z) (.ints .i64 (a3))), (.arr false (a4z) (.ints .i64 (a4)))])]).bind fun r0 =>
  cond (!bit (nth r0 0))
  (some [(.bool (false))])
  (cond (!decide (nI (List.length b) = nI (List.length a2)))
    (some [(.bool (false))])
    (cond (!decide (nI (List.length c) = nI (List.length a2)))
      (some [(.bool (false))])
      (lp k impl_InEnvelope [] [] 4 k (s_impl_InEnvelope_4 (nI (List.length a2)) ((0 : Int)) bz b cz c a2z a2)))) := by kernel_rfl
theorem l_impl_InEnvelope_4 (k n : Nat) (fu : List (Nat × Nat)) (x0 : Int) (x1 : Int) (z2 : Bool) (l3 : List Int) (z4 : Bool) (l5 : List Int) (z6 : Bool) (l7 : List Int) : lp k impl_InEnvelope [] fu 4 (n + 1) (s_impl_InEnvelope_4 x0 x1 z2 l3 z4 l5 z6 l7) =
    cond (decide (x1 < x0))
  (cond (decide ((0 : Int) ≤ x1) && decide (x1 < nI (List.length l7)))
    (cond (decide ((0 : Int) ≤ x1) && decide (x1 < nI (List.length l3)))
      (cond (decide ((0 : Int) ≤ x1) && decide (x1 < nI (List.length l5)))
        ((go k impl_within [(.int .i64 (List.getD l7 (Int.toNat x1) (0 : Int))), (.int .i64 (List.getD l3 (Int.toNat x1) (0 : Int))), (.int .i64 (List.getD l5 (Int.toNat x1) (0 : Int)))]).bind fun r0 =>
          cond (!bit (nth r0 0))
          (some [(.bool (false))])
          (lp k impl_InEnvelope [] fu 4 n (s_impl_InEnvelope_4 x0 (IntKind.wrap .i64 (x1 + (1 : Int))) z2 l3 z4 l5 z6 l7)))
        (none))
      (none))
    (none))
  (some [(.bool (true))]) := by kernel_rfl
def s_impl_Agree_4 (x0 : Int) (x1 : Int) (z2 : Bool) (l3 : List (Int × Int × Int)) (z4 : Bool) (l5 : List Int) (z6 : Bool) (l7 : List Int) (z8 : Bool) (l9 : List Int) (x10 : Int) (z11 : Bool) (l12 : List (Int × Int × Int)) (z13 : Bool) (l14 : List Int) (z15 : Bool) (l16 : List Int) (z17 : Bool) (l18 : List Int) (x19 : Int) (z20 : Bool) (l21 : List Bool) : St := ⟨fill 76 [(3, (.ptr 4 (0) (0))), (4, (.ptr 9 (0) (0))), (41, (.sl 10 none)), (42, (.int .i64 (x0))), (43, (.int .i64 (x1)))], [], [(.arr false (z2) (.r3 (l3))), (.arr false (z4) (.ints .i64 (l5))), (.arr false (z6) (.ints .i64 (l7))), (.arr false (z8) (.ints .i64 (l9))), (.box true [(.int .i64 (x10)), (.sl 0 none), (.sl 1 none), (.sl 2 none), (.sl 3 none)]), (.arr false (z11) (.r3 (l12))), (.arr false (z13) (.ints .i64 (l14))), (.arr false (z15) (.ints .i64 (l16))), (.arr false (z17) (.ints .i64 (l18))), (.box true [(.int .i64 (x19)), (.sl 5 none), (.sl 6 none), (.sl 7 none), (.sl 8 none)]), (.arr false (z20) (.bools (l21)))]⟩
theorem e_impl_Agree (k : Nat) (a0 : Int) (a1z : Bool) (a1 : List (Int × Int × Int)) (a2z : Bool) (a2 : List Int) (a3z : Bool) (a3 : List Int) (a4z : Bool) (a4 : List Int) (b0 : Int) (b1z : Bool) (b1 : List (Int × Int × Int)) (b2z : Bool) (b2 : List Int) (b3z : Bool) (b3 : List Int) (b4z : Bool) (b4 : List Int) (cz : Bool) (c : List Bool) : go (k + 1) impl_Agree [(.agg [(.int .i64 (a0)), (.arr false (a1z) (.r3 (a1))), (.arr false (a2z) (.ints .i64 (a2))), (.arr false (a3z) (.ints .i64 (a3))), (.arr false (a4z) (.ints .i64 (a4)))]), (.agg [(.int .i64 (b0)), (.arr false (b1z) (.r3 (b1))), (.arr false (b2z) (.ints .i64 (b2))), (.arr false (b3z) (.ints .i64 (b3))), (.arr false (b4z) (.ints .i64 (b4)))]), (.arr false (cz) (.bools (c)))] =
    (go k impl_StateOk [(.agg [(.int .i64 (a0)), (.arr false (a1z) (.r3 (a1))), (.arr false (a2z) (.ints .i64 (a2))), (.arr false (a3z) (.ints .i64 (a3))), (.arr false (a4z) (.ints .i64 (a4)))])]).bind fun r0 =>
  cond (!bit (nth r0 0))
  (some [(.bool (false))])
  ((go k impl_StateOk [(.agg [(.int .i64 (b0)), (.arr false (b1z) (.r3 (b1))), (.arr false (b2z) (.ints .i64 (b2))), (.arr false (b3z) (.ints .i64 (b3))), (.arr false (b4z) (.ints .i64 (b4)))])]).bind fun r1 =>
    cond (!bit (nth r1 0))
    (some [(.bool (false))])
    ((go k impl_SameMesh [(.agg [(.int .i64 (a0)), (.arr false (a1z) (.r3 (a1)))]), (.agg [(.int .i64 (b0)), (.arr false (b1z) (.r3 (b1)))])]).bind fun r2 =>
      cond (!bit (nth r2 0))
      (some [(.bool (false))])
      ((go k slices_Equal_int_int [(.arr false (a4z) (.ints .i64 (a4))), (.arr false (b4z) (.ints .i64 (b4)))]).bind fun r3 =>
        cond (!bit (nth r3 0))
        (some [(.bool (false))])
        (cond (!decide (nI (List.length c) = nI (List.length a2)))
          (some [(.bool (false))])
          (lp k impl_Agree [] [] 4 k (s_impl_Agree_4 (nI (List.length c)) ((0 : Int)) a1z a1 a2z a2 a3z a3 a4z a4 a0 b1z b1 b2z b2 b3z b3 b4z b4 b0 cz c)))))) := by kernel_rfl
theorem l_impl_Agree_4 (k n : Nat) (fu : List (Nat × Nat)) (x0 : Int) (x1 : Int) (z2 : Bool) (l3 : List (Int × Int × Int)) (z4 : Bool) (l5 : List Int) (z6 : Bool) (l7 : List Int) (z8 : Bool) (l9 : List Int) (x10 : Int) (z11 : Bool) (l12 : List (Int × Int × Int)) (z13 : Bool) (l14 : List Int) (z15 : Bool) (l16 : List Int) (z17 : Bool) (l18 : List Int) (x19 : Int) (z20 : Bool) (l21 : List Bool) : lp k impl_Agree [] fu 4 (n + 1) (s_impl_Agree_4 x0 x1 z2 l3 z4 l5 z6 l7 z8 l9 x10 z11 l12 z13 l14 z15 l16 z17 l18 x19 z20 l21) =
    cond (decide (x1 < x0))
  (cond (decide ((0 : Int) ≤ x1) && decide (x1 < nI (List.length l21)))
    (cond (List.getD l21 (Int.toNat x1) false)
      (cond (decide ((0 : Int) ≤ x1) && decide (x1 < nI (List.length l5)))
        (cond (decide ((0 : Int) ≤ x1) && decide (x1 < nI (List.length l14)))
          (cond (!decide (List.getD l5 (Int.toNat x1) (0 : Int) = List.getD l14 (Int.toNat x1) (0 : Int)))
            (some [(.bool (false))])
            (cond (decide ((0 : Int) ≤ x1) && decide (x1 < nI (List.length l7)))
              (cond (decide ((0 : Int) ≤ x1) && decide (x1 < nI (List.length l16)))
                (cond (!decide (List.getD l7 (Int.toNat x1) (0 : Int) = List.getD l16 (Int.toNat x1) (0 : Int)))
                  (some [(.bool (false))])
                  (lp k impl_Agree [] fu 4 n (s_impl_Agree_4 x0 (IntKind.wrap .i64 (x1 + (1 : Int))) z2 l3 z4 l5 z6 l7 z8 l9 x10 z11 l12 z13 l14 z15 l16 z17 l18 x19 z20 l21)))
                (none))
              (none)))
          (none))
        (none))
      (lp k impl_Agree [] fu 4 n (s_impl_Agree_4 x0 (IntKind.wrap .i64 (x1 + (1 : Int))) z2 l3 z4 l5 z6 l7 z8 l9 x10 z11 l12 z13 l14 z15 l16 z17 l18 x19 z20 l21)))
    (none))
  (some [(.bool (true))]) := by kernel_rfl

end Go.Proofs.Ytaoffhlajfkccaa
