/- Bars, one step each. -/
import Derived.Test.YtfnhcnbpkfhmmaaXA
namespace Go.Proofs.Ytfnhcnbpkfhmmaa
open Go.Ev
set_option linter.unusedVariables false
def s_impl_FormatBars_11 (x0 : Int) (x1 : Int) (x2 : Int) (x3 : Int) (x4 : Int) (x5 : Int) (z6 : Bool) (l7 : List (Int × Int × Int)) (z8 : Bool) (l9 : List Int) (z10 : Bool) (l11 : List Int) (z12 : Bool) (l13 : List Int) (x14 : Int) (z15 : Bool) (l16 : List Int) : St := ⟨fill 40 [(1, (.int .i64 (x0))), (2, (.ptr 4 (0) (0))), (5, (.sl 5 none)), (8, (.int IntKind.u8 (x1))), (15, (.sl 0 none)), (16, (.int .i64 (x2))), (17, (.int .i64 (x3))), (29, (.int .i64 (x4))), (30, (.int .i64 (x5)))], [], [(.arr false (z6) (.r3 (l7))), (.arr false (z8) (.ints .i64 (l9))), (.arr false (z10) (.ints .i64 (l11))), (.arr false (z12) (.ints .i64 (l13))), (.box true [(.int .i64 (x14)), (.sl 0 none), (.sl 1 none), (.sl 2 none), (.sl 3 none)]), (.arr true (z15) (.ints IntKind.u8 (l16)))]⟩
def s_impl_FormatBars_5 (x0 : Int) (x1 : Int) (x2 : Int) (z3 : Bool) (l4 : List (Int × Int × Int)) (z5 : Bool) (l6 : List Int) (z7 : Bool) (l8 : List Int) (z9 : Bool) (l10 : List Int) (x11 : Int) (z12 : Bool) (l13 : List Int) : St := ⟨fill 40 [(1, (.int .i64 (x0))), (2, (.ptr 4 (0) (0))), (5, (.sl 5 none)), (15, (.sl 0 none)), (16, (.int .i64 (x1))), (17, (.int .i64 (x2)))], [], [(.arr false (z3) (.r3 (l4))), (.arr false (z5) (.ints .i64 (l6))), (.arr false (z7) (.ints .i64 (l8))), (.arr false (z9) (.ints .i64 (l10))), (.box true [(.int .i64 (x11)), (.sl 0 none), (.sl 1 none), (.sl 2 none), (.sl 3 none)]), (.arr true (z12) (.ints IntKind.u8 (l13)))]⟩
theorem e_impl_FormatBars (k : Nat) (a0 : Int) (a1z : Bool) (a1 : List (Int × Int × Int)) (a2z : Bool) (a2 : List Int) (a3z : Bool) (a3 : List Int) (a4z : Bool) (a4 : List Int) (b : Int) : go (k + 1) impl_FormatBars [(.agg [(.int .i64 (a0)), (.arr false (a1z) (.r3 (a1))), (.arr false (a2z) (.ints .i64 (a2))), (.arr false (a3z) (.ints .i64 (a3))), (.arr false (a4z) (.ints .i64 (a4)))]), (.int .i64 (b))] =
    (go k impl_StateOk [(.agg [(.int .i64 (a0)), (.arr false (a1z) (.r3 (a1))), (.arr false (a2z) (.ints .i64 (a2))), (.arr false (a3z) (.ints .i64 (a3))), (.arr false (a4z) (.ints .i64 (a4)))])]).bind fun r0 =>
  cond (!bit (nth r0 0))
  (some [(.str ({ data := #[] }))])
  (lp k impl_FormatBars [] [] 5 k (s_impl_FormatBars_5 b (nI (List.length a1)) ((0 : Int)) a1z a1 a2z a2 a3z a3 a4z a4 a0 false ([]))) := by kernel_rfl
theorem l_impl_FormatBars_11 (k n : Nat) (fu : List (Nat × Nat)) (x0 : Int) (x1 : Int) (x2 : Int) (x3 : Int) (x4 : Int) (x5 : Int) (z6 : Bool) (l7 : List (Int × Int × Int)) (z8 : Bool) (l9 : List Int) (z10 : Bool) (l11 : List Int) (z12 : Bool) (l13 : List Int) (x14 : Int) (z15 : Bool) (l16 : List Int) : lp k impl_FormatBars [] fu 11 (n + 1) (s_impl_FormatBars_11 x0 x1 x2 x3 x4 x5 z6 l7 z8 l9 z10 l11 z12 l13 x14 z15 l16) =
    cond (decide (x5 < x4))
  (cond (decide (List.length (l16 ++ [x1]) ≤ bigLen))
    (lp k impl_FormatBars [] fu 11 n (s_impl_FormatBars_11 x0 x1 x2 x3 x4 (IntKind.wrap .i64 (x5 + (1 : Int))) z6 l7 z8 l9 z10 l11 z12 l13 x14 (z15 && decide (List.length (l16 ++ [x1]) = 0)) (l16 ++ [x1])))
    (none))
  (lp k impl_FormatBars [] fu 5 (fuelOf fu 5) (s_impl_FormatBars_5 x0 x2 (IntKind.wrap .i64 (x3 + (1 : Int))) z6 l7 z8 l9 z10 l11 z12 l13 x14 z15 l16)) := by kernel_rfl
theorem l_impl_FormatBars_5 (k n : Nat) (fu : List (Nat × Nat)) (x0 : Int) (x1 : Int) (x2 : Int) (z3 : Bool) (l4 : List (Int × Int × Int)) (z5 : Bool) (l6 : List Int) (z7 : Bool) (l8 : List Int) (z9 : Bool) (l10 : List Int) (x11 : Int) (z12 : Bool) (l13 : List Int) : lp k impl_FormatBars [] fu 5 (n + 1) (s_impl_FormatBars_5 x0 x1 x2 z3 l4 z5 l6 z7 l8 z9 l10 x11 z12 l13) =
    cond (decide (x2 < x1))
  (cond (decide ((0 : Int) ≤ x2) && decide (x2 < nI (List.length l4)))
    ((go k impl_State_surface [(.agg [(.int .i64 (x11)), (.arr false (z3) (.r3 (l4))), (.arr false (z5) (.ints .i64 (l6))), (.arr false (z7) (.ints .i64 (l8))), (.arr false (z9) (.ints .i64 (l10)))]), (.int .i64 (x2))]).bind fun r0 =>
      cond (decide (D.toInt (nth r0 0) < x0))
      ((go k impl_WidthOf [(.int .i64 (Prod.fst (Prod.snd (List.getD l4 (Int.toNat x2) zz3))))]).bind fun r1 =>
        lp k impl_FormatBars [] ((5, n) :: fu) 11 k (s_impl_FormatBars_11 x0 ((46 : Int)) x1 x2 (D.toInt (nth r1 0)) ((0 : Int)) z3 l4 z5 l6 z7 l8 z9 l10 x11 z12 l13))
      ((go k impl_WidthOf [(.int .i64 (Prod.fst (Prod.snd (List.getD l4 (Int.toNat x2) zz3))))]).bind fun r2 =>
        lp k impl_FormatBars [] ((5, n) :: fu) 11 k (s_impl_FormatBars_11 x0 ((35 : Int)) x1 x2 (D.toInt (nth r2 0)) ((0 : Int)) z3 l4 z5 l6 z7 l8 z9 l10 x11 z12 l13)))
    (none))
  (some [(.str (strL l13))]) := by kernel_rfl
def s_spec_FormatBars_3 (x0 : Int) (x1 : Int) (z2 : Bool) (l3 : List (Int × Int × Int)) (z4 : Bool) (l5 : List Int) (z6 : Bool) (l7 : List Int) (z8 : Bool) (l9 : List Int) (x10 : Int) (z11 : Bool) (l12 : List Int) : St := ⟨fill 44 [(1, (.int .i64 (x0))), (2, (.ptr 4 (0) (0))), (5, (.sl 5 none)), (6, (.int .i64 (x1)))], [], [(.arr false (z2) (.r3 (l3))), (.arr false (z4) (.ints .i64 (l5))), (.arr false (z6) (.ints .i64 (l7))), (.arr false (z8) (.ints .i64 (l9))), (.box true [(.int .i64 (x10)), (.sl 0 none), (.sl 1 none), (.sl 2 none), (.sl 3 none)]), (.arr true (z11) (.ints IntKind.u8 (l12)))]⟩
def s_spec_FormatBars_9 (x0 : Int) (x1 : Int) (x2 : Int) (x3 : Int) (z4 : Bool) (l5 : List (Int × Int × Int)) (z6 : Bool) (l7 : List Int) (z8 : Bool) (l9 : List Int) (z10 : Bool) (l11 : List Int) (x12 : Int) (z13 : Bool) (l14 : List Int) : St := ⟨fill 44 [(1, (.int .i64 (x0))), (2, (.ptr 4 (0) (0))), (5, (.sl 5 none)), (6, (.int .i64 (x1))), (7, (.int IntKind.u8 (x2))), (8, (.int .i64 (x3)))], [], [(.arr false (z4) (.r3 (l5))), (.arr false (z6) (.ints .i64 (l7))), (.arr false (z8) (.ints .i64 (l9))), (.arr false (z10) (.ints .i64 (l11))), (.box true [(.int .i64 (x12)), (.sl 0 none), (.sl 1 none), (.sl 2 none), (.sl 3 none)]), (.arr true (z13) (.ints IntKind.u8 (l14)))]⟩
theorem e_spec_FormatBars (k : Nat) (a0 : Int) (a1z : Bool) (a1 : List (Int × Int × Int)) (a2z : Bool) (a2 : List Int) (a3z : Bool) (a3 : List Int) (a4z : Bool) (a4 : List Int) (b : Int) : go (k + 1) spec_FormatBars [(.agg [(.int .i64 (a0)), (.arr false (a1z) (.r3 (a1))), (.arr false (a2z) (.ints .i64 (a2))), (.arr false (a3z) (.ints .i64 (a3))), (.arr false (a4z) (.ints .i64 (a4)))]), (.int .i64 (b))] =
    lp k spec_FormatBars [] [] 3 k (s_spec_FormatBars_3 b ((0 : Int)) a1z a1 a2z a2 a3z a3 a4z a4 a0 false ([])) := by kernel_rfl
theorem l_spec_FormatBars_3 (k n : Nat) (fu : List (Nat × Nat)) (x0 : Int) (x1 : Int) (z2 : Bool) (l3 : List (Int × Int × Int)) (z4 : Bool) (l5 : List Int) (z6 : Bool) (l7 : List Int) (z8 : Bool) (l9 : List Int) (x10 : Int) (z11 : Bool) (l12 : List Int) : lp k spec_FormatBars [] fu 3 (n + 1) (s_spec_FormatBars_3 x0 x1 z2 l3 z4 l5 z6 l7 z8 l9 x10 z11 l12) =
    cond (decide (x1 < nI (List.length l5)))
  ((go k spec_StateOk [(.agg [(.int .i64 (x10)), (.arr false (z2) (.r3 (l3))), (.arr false (z4) (.ints .i64 (l5))), (.arr false (z6) (.ints .i64 (l7))), (.arr false (z8) (.ints .i64 (l9)))])]).bind fun r0 =>
    cond (bit (nth r0 0))
    ((go k spec_l09Surface [(.agg [(.int .i64 (x10)), (.arr false (z2) (.r3 (l3))), (.arr false (z4) (.ints .i64 (l5))), (.arr false (z6) (.ints .i64 (l7))), (.arr false (z8) (.ints .i64 (l9)))]), (.int .i64 (x1))]).bind fun r1 =>
      cond (decide (D.toInt (nth r1 0) < x0))
      (lp k spec_FormatBars [] ((3, n) :: fu) 9 k (s_spec_FormatBars_9 x0 x1 ((46 : Int)) ((0 : Int)) z2 l3 z4 l5 z6 l7 z8 l9 x10 z11 l12))
      (lp k spec_FormatBars [] ((3, n) :: fu) 9 k (s_spec_FormatBars_9 x0 x1 ((35 : Int)) ((0 : Int)) z2 l3 z4 l5 z6 l7 z8 l9 x10 z11 l12)))
    (some [(.str (strL l12))]))
  (some [(.str (strL l12))]) := by kernel_rfl
theorem l_spec_FormatBars_9 (k n : Nat) (fu : List (Nat × Nat)) (x0 : Int) (x1 : Int) (x2 : Int) (x3 : Int) (z4 : Bool) (l5 : List (Int × Int × Int)) (z6 : Bool) (l7 : List Int) (z8 : Bool) (l9 : List Int) (z10 : Bool) (l11 : List Int) (x12 : Int) (z13 : Bool) (l14 : List Int) : lp k spec_FormatBars [] fu 9 (n + 1) (s_spec_FormatBars_9 x0 x1 x2 x3 z4 l5 z6 l7 z8 l9 z10 l11 x12 z13 l14) =
    cond (decide ((0 : Int) ≤ x1) && decide (x1 < nI (List.length l5)))
  ((go k spec_WidthOf [(.int .i64 (Prod.fst (Prod.snd (List.getD l5 (Int.toNat x1) zz3))))]).bind fun r0 =>
    cond (decide (x3 < D.toInt (nth r0 0)))
    (cond (decide (List.length (l14 ++ [x2]) ≤ bigLen))
      (lp k spec_FormatBars [] fu 9 n (s_spec_FormatBars_9 x0 x1 x2 (IntKind.wrap .i64 (x3 + (1 : Int))) z4 l5 z6 l7 z8 l9 z10 l11 x12 (z13 && decide (List.length (l14 ++ [x2]) = 0)) (l14 ++ [x2])))
      (none))
    (lp k spec_FormatBars [] fu 3 (fuelOf fu 3) (s_spec_FormatBars_3 x0 (IntKind.wrap .i64 (x1 + (1 : Int))) z4 l5 z6 l7 z8 l9 z10 l11 x12 z13 l14)))
  (none) := by kernel_rfl

end Go.Proofs.Ytfnhcnbpkfhmmaa
