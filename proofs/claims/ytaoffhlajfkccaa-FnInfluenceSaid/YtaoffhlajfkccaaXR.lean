/- What the functions of influence compute, one step each. -/
import Derived.Test.YtaoffhlajfkccaaXA
namespace Go.Proofs.Ytaoffhlajfkccaa
open Go.Ev
set_option linter.unusedVariables false
theorem e_slices_Clone_bool_bool (k : Nat) (az : Bool) (a : List Bool) : go (k + 1) slices_Clone_bool_bool [(.arr false (az) (.bools (a)))] =
    cond (az)
  (some [(.arr true (true) (.bools ([])))])
  (cond (decide (List.length ([] ++ a) ≤ bigLen))
    (some [(.arr true (false && decide (List.length ([] ++ a) = 0)) (.bools ([] ++ a)))])
    (none)) := by kernel_rfl
def s_impl_Reached_6 (x0 : Int) (x1 : Int) (z2 : Bool) (l3 : List (Int × Int × Int)) (x4 : Int) (z5 : Bool) (l6 : List Bool) : St := ⟨fill 54 [(2, (.int .i64 (x0))), (4, (.ptr 1 (0) (0))), (9, (.sl 2 none)), (10, (.int .i64 (x1)))], [], [(.arr false (z2) (.r3 (l3))), (.box true [(.int .i64 (x4)), (.sl 0 none)]), (.arr true (z5) (.bools (l6)))]⟩
theorem e_impl_Reached (k : Nat) (a0 : Int) (a1z : Bool) (a1 : List (Int × Int × Int)) (b : Int) (c : Int) (d : Int) : go (k + 1) impl_Reached [(.agg [(.int .i64 (a0)), (.arr false (a1z) (.r3 (a1)))]), (.int .i64 (b)), (.int .i64 (c)), (.int .i64 (d))] =
    (go k impl_MeshOk [(.agg [(.int .i64 (a0)), (.arr false (a1z) (.r3 (a1)))])]).bind fun r0 =>
  cond (!bit (nth r0 0))
  (some [(.arr true (true) (.bools ([])))])
  ((go k impl_Mesh_has [(.agg [(.int .i64 (a0)), (.arr false (a1z) (.r3 (a1)))]), (.int .i64 (b))]).bind fun r1 =>
    cond (!bit (nth r1 0))
    (some [(.arr true (true) (.bools ([])))])
    (cond (decide (c < (0 : Int)))
      (some [(.arr true (true) (.bools ([])))])
      (cond (decide (d < c))
        (some [(.arr true (true) (.bools ([])))])
        (cond (decide ((1000 : Int) < IntKind.wrap .i64 (d - c)))
          (some [(.arr true (true) (.bools ([])))])
          (cond (decide ((0 : Int) ≤ nI (List.length a1)) && decide (nI (List.length a1) ≤ nI (List.length a1)) && decide (nI (List.length a1) ≤ nI bigLen))
            (cond (decide ((0 : Int) ≤ b) && decide (b < nI (List.length (List.replicate (Int.toNat (nI (List.length a1))) false))))
              (lp k impl_Reached [] [] 6 k (s_impl_Reached_6 c (IntKind.wrap .i64 (d - (1 : Int))) a1z a1 a0 false (List.set (List.replicate (Int.toNat (nI (List.length a1))) false) (Int.toNat b) true)))
              (none))
            (none)))))) := by kernel_rfl
theorem l_impl_Reached_6 (k n : Nat) (fu : List (Nat × Nat)) (x0 : Int) (x1 : Int) (z2 : Bool) (l3 : List (Int × Int × Int)) (x4 : Int) (z5 : Bool) (l6 : List Bool) : lp k impl_Reached [] fu 6 (n + 1) (s_impl_Reached_6 x0 x1 z2 l3 x4 z5 l6) =
    cond (decide (x0 ≤ x1))
  ((go k impl_Mesh_widen [(.agg [(.int .i64 (x4)), (.arr false (z2) (.r3 (l3)))]), (.arr false (z5) (.bools (l6))), (.int .i64 (x1))]).bind fun r0 =>
    lp k impl_Reached [] fu 6 n (s_impl_Reached_6 x0 (IntKind.wrap .i64 (x1 - (1 : Int))) z2 l3 x4 (D.nil (nth r0 0)) (D.bools (nth r0 0))))
  (some [(.arr true (z5) (.bools (l6)))]) := by kernel_rfl
def s_impl_Mesh_widen_4 (x0 : Int) (x1 : Int) (z2 : Bool) (l3 : List Bool) (z4 : Bool) (l5 : List (Int × Int × Int)) (x6 : Int) (x7 : Int) (z8 : Bool) (l9 : List Bool) : St := ⟨fill 48 [(7, (.sl 0 none)), (8, (.fn impl_Mesh_widen_1 [(.ptr 2 (0) (0)), (.ptr 3 (0) (0))])), (14, (.sl 4 none)), (15, (.int .i64 (x0))), (16, (.int .i64 (x1)))], [], [(.arr true (z2) (.bools (l3))), (.arr false (z4) (.r3 (l5))), (.box true [(.int .i64 (x6)), (.sl 1 none)]), (.box true [(.int .i64 (x7))]), (.arr false (z8) (.bools (l9)))]⟩
theorem e_impl_Mesh_widen (k : Nat) (a0 : Int) (a1z : Bool) (a1 : List (Int × Int × Int)) (bz : Bool) (b : List Bool) (c : Int) : go (k + 1) impl_Mesh_widen [(.agg [(.int .i64 (a0)), (.arr false (a1z) (.r3 (a1)))]), (.arr false (bz) (.bools (b))), (.int .i64 (c))] =
    (go k slices_Clone_bool_bool [(.arr false (bz) (.bools (b)))]).bind fun r0 =>
  lp k impl_Mesh_widen [] [] 4 k (s_impl_Mesh_widen_4 (nI (List.length b)) ((0 : Int)) (D.nil (nth r0 0)) (D.bools (nth r0 0)) a1z a1 a0 c bz b) := by kernel_rfl
theorem l_impl_Mesh_widen_4 (k n : Nat) (fu : List (Nat × Nat)) (x0 : Int) (x1 : Int) (z2 : Bool) (l3 : List Bool) (z4 : Bool) (l5 : List (Int × Int × Int)) (x6 : Int) (x7 : Int) (z8 : Bool) (l9 : List Bool) : lp k impl_Mesh_widen [] fu 4 (n + 1) (s_impl_Mesh_widen_4 x0 x1 z2 l3 z4 l5 x6 x7 z8 l9) =
    cond (decide (x1 < x0))
  (cond (decide ((0 : Int) ≤ x1) && decide (x1 < nI (List.length l9)))
    (cond (!List.getD l9 (Int.toNat x1) false)
      (lp k impl_Mesh_widen [] fu 4 n (s_impl_Mesh_widen_4 x0 (IntKind.wrap .i64 (x1 + (1 : Int))) z2 l3 z4 l5 x6 x7 z8 l9))
      ((go k impl_Mesh_widen_1 [(.int .i64 (IntKind.wrap .i64 (x1 - (1 : Int)))), (.ptr false [(.int .i64 (x6)), (.arr false (z4) (.r3 (l5)))]), (.ptr false [(.int .i64 (x7))])]).bind fun r0 =>
        cond (bit (nth r0 0))
        (cond (decide ((0 : Int) ≤ IntKind.wrap .i64 (x1 - (1 : Int))) && decide (IntKind.wrap .i64 (x1 - (1 : Int)) < nI (List.length l3)))
          ((go k impl_Mesh_widen_1 [(.int .i64 (x1)), (.ptr false [(.int .i64 (x6)), (.arr false (z4) (.r3 (l5)))]), (.ptr false [(.int .i64 (x7))])]).bind fun r1 =>
            cond (bit (nth r1 0))
            (cond (decide ((0 : Int) ≤ IntKind.wrap .i64 (x1 + (1 : Int))) && decide (IntKind.wrap .i64 (x1 + (1 : Int)) < nI (List.length (List.set l3 (Int.toNat (IntKind.wrap .i64 (x1 - (1 : Int)))) true))))
              ((go k impl_Mesh_widen_1 [(.int .i64 (IntKind.wrap .i64 (x1 + (1 : Int)))), (.ptr false [(.int .i64 (x6)), (.arr false (z4) (.r3 (l5)))]), (.ptr false [(.int .i64 (x7))])]).bind fun r2 =>
                cond (bit (nth r2 0))
                (cond (decide ((0 : Int) ≤ IntKind.wrap .i64 (x1 + (2 : Int))) && decide (IntKind.wrap .i64 (x1 + (2 : Int)) < nI (List.length (List.set (List.set l3 (Int.toNat (IntKind.wrap .i64 (x1 - (1 : Int)))) true) (Int.toNat (IntKind.wrap .i64 (x1 + (1 : Int)))) true))))
                  (lp k impl_Mesh_widen [] fu 4 n (s_impl_Mesh_widen_4 x0 (IntKind.wrap .i64 (x1 + (1 : Int))) z2 (List.set (List.set (List.set l3 (Int.toNat (IntKind.wrap .i64 (x1 - (1 : Int)))) true) (Int.toNat (IntKind.wrap .i64 (x1 + (1 : Int)))) true) (Int.toNat (IntKind.wrap .i64 (x1 + (2 : Int)))) true) z4 l5 x6 x7 z8 l9))
                  (none))
                (lp k impl_Mesh_widen [] fu 4 n (s_impl_Mesh_widen_4 x0 (IntKind.wrap .i64 (x1 + (1 : Int))) z2 (List.set (List.set l3 (Int.toNat (IntKind.wrap .i64 (x1 - (1 : Int)))) true) (Int.toNat (IntKind.wrap .i64 (x1 + (1 : Int)))) true) z4 l5 x6 x7 z8 l9)))
              (none))
            (lp k impl_Mesh_widen [] fu 4 n (s_impl_Mesh_widen_4 x0 (IntKind.wrap .i64 (x1 + (1 : Int))) z2 (List.set l3 (Int.toNat (IntKind.wrap .i64 (x1 - (1 : Int)))) true) z4 l5 x6 x7 z8 l9)))
          (none))
        ((go k impl_Mesh_widen_1 [(.int .i64 (x1)), (.ptr false [(.int .i64 (x6)), (.arr false (z4) (.r3 (l5)))]), (.ptr false [(.int .i64 (x7))])]).bind fun r3 =>
          cond (bit (nth r3 0))
          (cond (decide ((0 : Int) ≤ IntKind.wrap .i64 (x1 + (1 : Int))) && decide (IntKind.wrap .i64 (x1 + (1 : Int)) < nI (List.length l3)))
            ((go k impl_Mesh_widen_1 [(.int .i64 (IntKind.wrap .i64 (x1 + (1 : Int)))), (.ptr false [(.int .i64 (x6)), (.arr false (z4) (.r3 (l5)))]), (.ptr false [(.int .i64 (x7))])]).bind fun r4 =>
              cond (bit (nth r4 0))
              (cond (decide ((0 : Int) ≤ IntKind.wrap .i64 (x1 + (2 : Int))) && decide (IntKind.wrap .i64 (x1 + (2 : Int)) < nI (List.length (List.set l3 (Int.toNat (IntKind.wrap .i64 (x1 + (1 : Int)))) true))))
                (lp k impl_Mesh_widen [] fu 4 n (s_impl_Mesh_widen_4 x0 (IntKind.wrap .i64 (x1 + (1 : Int))) z2 (List.set (List.set l3 (Int.toNat (IntKind.wrap .i64 (x1 + (1 : Int)))) true) (Int.toNat (IntKind.wrap .i64 (x1 + (2 : Int)))) true) z4 l5 x6 x7 z8 l9))
                (none))
              (lp k impl_Mesh_widen [] fu 4 n (s_impl_Mesh_widen_4 x0 (IntKind.wrap .i64 (x1 + (1 : Int))) z2 (List.set l3 (Int.toNat (IntKind.wrap .i64 (x1 + (1 : Int)))) true) z4 l5 x6 x7 z8 l9)))
            (none))
          (lp k impl_Mesh_widen [] fu 4 n (s_impl_Mesh_widen_4 x0 (IntKind.wrap .i64 (x1 + (1 : Int))) z2 l3 z4 l5 x6 x7 z8 l9)))))
    (none))
  (some [(.arr true (z2) (.bools (l3)))]) := by kernel_rfl
theorem e_impl_Mesh_widen_1 (k : Nat) (a : Int) : go (k + 1) impl_Mesh_widen_1 [(.int .i64 (a))] =
    none := by kernel_rfl
theorem e_impl_Mesh_widen_1_v1 (k : Nat) (v0 : Int) (v1 : Int) (v2 : Bool) (v3 : List (Int × Int × Int)) (v4 : Int) : go (k + 1) impl_Mesh_widen_1 [(.int .i64 (v0)), (.ptr false [(.int .i64 (v1)), (.arr false (v2) (.r3 (v3)))]), (.ptr false [(.int .i64 (v4))])] =
    (go k impl_within [(.int .i64 (v0)), (.int .i64 ((0 : Int))), (.int .i64 (IntKind.wrap .i64 (nI (List.length v3) - (2 : Int))))]).bind fun r0 =>
  cond (bit (nth r0 0))
  ((go k impl_Mesh_faceLevel [(.agg [(.int .i64 (v1)), (.arr false (v2) (.r3 (v3)))]), (.int .i64 (v0))]).bind fun r1 =>
    (go k impl_IsActive [(.int .i64 (v4)), (.int .i64 (D.toInt (nth r1 0)))]).bind fun r2 =>
    some [(.bool (bit (nth r2 0)))])
  (some [(.bool (false))]) := by kernel_rfl
def s_impl_ConeWidth_3 (x0 : Int) (x1 : Int) (x2 : Int) (z3 : Bool) (l4 : List Bool) : St := ⟨fill 24 [(7, (.int .i64 (x0))), (13, (.sl 0 none)), (14, (.int .i64 (x1))), (15, (.int .i64 (x2)))], [], [(.arr true (z3) (.bools (l4)))]⟩
theorem e_impl_ConeWidth (k : Nat) (a0 : Int) (a1z : Bool) (a1 : List (Int × Int × Int)) (b : Int) (c : Int) : go (k + 1) impl_ConeWidth [(.agg [(.int .i64 (a0)), (.arr false (a1z) (.r3 (a1)))]), (.int .i64 (b)), (.int .i64 (c))] =
    (go k impl_Reached [(.agg [(.int .i64 (a0)), (.arr false (a1z) (.r3 (a1)))]), (.int .i64 (b)), (.int .i64 ((0 : Int))), (.int .i64 (c))]).bind fun r0 =>
  lp k impl_ConeWidth [] [] 3 k (s_impl_ConeWidth_3 ((0 : Int)) (nI (List.length (D.bools (nth r0 0)))) ((0 : Int)) (D.nil (nth r0 0)) (D.bools (nth r0 0))) := by kernel_rfl
theorem l_impl_ConeWidth_3 (k n : Nat) (fu : List (Nat × Nat)) (x0 : Int) (x1 : Int) (x2 : Int) (z3 : Bool) (l4 : List Bool) : lp k impl_ConeWidth [] fu 3 (n + 1) (s_impl_ConeWidth_3 x0 x1 x2 z3 l4) =
    cond (decide (x2 < x1))
  (cond (decide ((0 : Int) ≤ x2) && decide (x2 < nI (List.length l4)))
    (cond (List.getD l4 (Int.toNat x2) false)
      (lp k impl_ConeWidth [] fu 3 n (s_impl_ConeWidth_3 (IntKind.wrap .i64 (x0 + (1 : Int))) x1 (IntKind.wrap .i64 (x2 + (1 : Int))) z3 l4))
      (lp k impl_ConeWidth [] fu 3 n (s_impl_ConeWidth_3 x0 x1 (IntKind.wrap .i64 (x2 + (1 : Int))) z3 l4)))
    (none))
  (some [(.int .i64 (x0))]) := by kernel_rfl

end Go.Proofs.Ytaoffhlajfkccaa
