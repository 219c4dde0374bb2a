/- What the program's functions compute, and plain facts of it (part 2). No condition beyond those that each theorem states. -/
import Derived.Test.YtcaapedadpnjoaaQS1
set_option linter.unusedVariables false
set_option linter.unusedSimpArgs false
section
namespace Go.Proofs.Ytcaapedadpnjoaa
open Go.Ev
theorem qfd (k : Nat) (v0 : Bool) (v1 : List Int) (v2 v3 : Int) : go (k + 1) spec_l01Byte [(.ptr true [(.arr false (v0) (.ints IntKind.u8 (v1))), (.int .i64 (v2)), (.int .i64 (v3))])] =
 cond (decide (v2 < nI (List.length v1)))
 (cond (decide ((0 : Int) ≤ v2) && decide (v2 < nI (List.length v1)))
 (some [(.int .i64 (bitN BinOp.and .i64 (IntKind.wrap .i64 (bitN BinOp.and .i64 (bitN BinOp.xor .i64 (Int.fdiv (IntKind.wrap .i64 (IntKind.wrap .i64 (v3 * (6364136223846793005 : Int)) + (1442695040888963407 : Int))) ((2 : Int) ^ shiftN .i64 (33 : Int))) (Int.fdiv (IntKind.wrap .i64 (IntKind.wrap .i64 (v3 * (6364136223846793005 : Int)) + (1442695040888963407 : Int))) ((2 : Int) ^ shiftN .i64 (45 : Int)))) (255 : Int) + IntKind.wrap .i64 (List.getD v1 (Int.toNat v2) (0 : Int)))) (255 : Int))), (.ptr true [(.arr false (v0) (.ints IntKind.u8 (v1))), (.int .i64 (IntKind.wrap .i64 (v2 + (1 : Int)))), (.int .i64 (IntKind.wrap .i64 (IntKind.wrap .i64 (v3 * (6364136223846793005 : Int)) + (1442695040888963407 : Int))))])])
 (none))
 (some [(.int .i64 (bitN BinOp.and .i64 (bitN BinOp.xor .i64 (Int.fdiv (IntKind.wrap .i64 (IntKind.wrap .i64 (v3 * (6364136223846793005 : Int)) + (1442695040888963407 : Int))) ((2 : Int) ^ shiftN .i64 (33 : Int))) (Int.fdiv (IntKind.wrap .i64 (IntKind.wrap .i64 (v3 * (6364136223846793005 : Int)) + (1442695040888963407 : Int))) ((2 : Int) ^ shiftN .i64 (45 : Int)))) (255 : Int))), (.ptr true [(.arr false (v0) (.ints IntKind.u8 (v1))), (.int .i64 (v2)), (.int .i64 (IntKind.wrap .i64 (IntKind.wrap .i64 (v3 * (6364136223846793005 : Int)) + (1442695040888963407 : Int))))])]) := by kernel_rfl
theorem qfc (k : Nat) (v0 : Bool) (v1 : List Int) (v2 v3 v4 : Int) : go (k + 1) spec_l01Below [(.ptr true [(.arr false (v0) (.ints IntKind.u8 (v1))), (.int .i64 (v2)), (.int .i64 (v3))]), (.int .i64 (v4))] =
 cond (decide (v4 ≤ (0 : Int)))
 (some [(.int .i64 (0 : Int)), (.ptr true [(.arr false (v0) (.ints IntKind.u8 (v1))), (.int .i64 (v2)), (.int .i64 (v3))])])
 (cond (decide (v4 ≤ (256 : Int)))
 ((go k spec_l01Byte [(.ptr true [(.arr false (v0) (.ints IntKind.u8 (v1))), (.int .i64 (v2)), (.int .i64 (v3))])]).bind fun r0 =>
 cond (!decide (v4 = (0 : Int)))
 (some [(.int .i64 (Int.tmod (D.toInt (nth r0 0)) v4)), (.ptr true [(.arr false (v0) (.ints IntKind.u8 (v1))), (.int .i64 (D.toInt (D.cell 1 (nth r0 1)))), (.int .i64 (D.toInt (D.cell 2 (nth r0 1))))])])
 (none))
 ((go k spec_l01Byte [(.ptr true [(.arr false (v0) (.ints IntKind.u8 (v1))), (.int .i64 (v2)), (.int .i64 (v3))])]).bind fun r1 =>
 (go k spec_l01Byte [(.ptr true [(.arr false (v0) (.ints IntKind.u8 (v1))), (.int .i64 (D.toInt (D.cell 1 (nth r1 1)))), (.int .i64 (D.toInt (D.cell 2 (nth r1 1))))])]).bind fun r2 =>
 (go k spec_l01Byte [(.ptr true [(.arr false (v0) (.ints IntKind.u8 (v1))), (.int .i64 (D.toInt (D.cell 1 (nth r2 1)))), (.int .i64 (D.toInt (D.cell 2 (nth r2 1))))])]).bind fun r3 =>
 (go k spec_l01Byte [(.ptr true [(.arr false (v0) (.ints IntKind.u8 (v1))), (.int .i64 (D.toInt (D.cell 1 (nth r3 1)))), (.int .i64 (D.toInt (D.cell 2 (nth r3 1))))])]).bind fun r4 =>
 cond (!decide (v4 = (0 : Int)))
 (some [(.int .i64 (Int.tmod (IntKind.wrap .i64 (IntKind.wrap .i64 (IntKind.wrap .i64 (IntKind.wrap .i64 (D.toInt (nth r1 0) * (16777216 : Int)) + IntKind.wrap .i64 (D.toInt (nth r2 0) * (65536 : Int))) + IntKind.wrap .i64 (D.toInt (nth r3 0) * (256 : Int))) + D.toInt (nth r4 0))) v4)), (.ptr true [(.arr false (v0) (.ints IntKind.u8 (v1))), (.int .i64 (D.toInt (D.cell 1 (nth r4 1)))), (.int .i64 (D.toInt (D.cell 2 (nth r4 1))))])])
 (none))) := by kernel_rfl
theorem qff (k : Nat) (v0 : Bool) (v1 : List Int) (v2 v3 v4 : Int) : go (k + 1) spec_l01Once [(.ptr true [(.arr false (v0) (.ints IntKind.u8 (v1))), (.int .i64 (v2)), (.int .i64 (v3))]), (.int .i64 (v4))] =
 (go k spec_l01Below [(.ptr true [(.arr false (v0) (.ints IntKind.u8 (v1))), (.int .i64 (v2)), (.int .i64 (v3))]), (.int .i64 (v4))]).bind fun r0 =>
 some [(.bool (decide (D.toInt (nth r0 0) = (0 : Int)))), (.ptr true [(.arr false (v0) (.ints IntKind.u8 (v1))), (.int .i64 (D.toInt (D.cell 1 (nth r0 1)))), (.int .i64 (D.toInt (D.cell 2 (nth r0 1))))])] := by kernel_rfl
theorem qex (k : Nat) (a0 a1 a2 b : Int) : go (k + 1) spec_ChildOf [(.agg [(.int .i64 (a0)), (.int .i64 (a1)), (.int .i64 (a2))]), (.int .i64 (b))] =
 (go k spec_IdOk [(.agg [(.int .i64 (a0)), (.int .i64 (a1)), (.int .i64 (a2))])]).bind fun r0 =>
 cond (!bit (nth r0 0))
 (some [(.agg [(.int .i64 (0 : Int)), (.int .i64 (0 : Int)), (.int .i64 (0 : Int))]), (.bool (false))])
 (cond (decide (a1 = (4 : Int)))
 (some [(.agg [(.int .i64 (0 : Int)), (.int .i64 (0 : Int)), (.int .i64 (0 : Int))]), (.bool (false))])
 ((go k spec_l01In [(.int .i64 (b)), (.int .i64 (0 : Int)), (.int .i64 ((1 : Int)))]).bind fun r1 =>
 cond (!bit (nth r1 0))
 (some [(.agg [(.int .i64 (0 : Int)), (.int .i64 (0 : Int)), (.int .i64 (0 : Int))]), (.bool (false))])
 (some [(.agg [(.int .i64 (a0)), (.int .i64 (IntKind.wrap .i64 (a1 + (1 : Int)))), (.int .i64 (IntKind.wrap .i64 (IntKind.wrap .i64 ((2 : Int) * a2) + b)))]), (.bool (true))]))) := by kernel_rfl
def qk1 (x0 x1 : Int) (z2 : Bool) (l3 : List Int) (x4 x5 : Int) (z6 : Bool) (l7 : List (Int × Int × Int)) (x8 x9 x10 : Int) : St := ⟨fill 44 [(0, (.ptr 1 (0) (0))), (2, (.int .i64 (x0))), (3, (.ptr 3 (0) (0))), (5, (.ptr 4 (0) (0))), (8, (.int .i64 (x1)))], [(.ptr 1 (0) (0)), (.ptr 3 (0) (0)), (.sl 0 none)], [(.arr false (z2) (.ints IntKind.u8 (l3))), (.box true [(.sl 0 none), (.int .i64 (x4)), (.int .i64 (x5))]), (.arr true (z6) (.r3 (l7))), (.box true [(.sl 2 none)]), (.box true [(.int .i64 (x8)), (.int .i64 (x9)), (.int .i64 (x10))])]⟩
theorem qfj (k : Nat) (v0 : Bool) (v1 : List Int) (v2 v3 v4 v5 v6 v7 : Int) (v8 : Bool) (v9 : List (Int × Int × Int)) : go (k + 1) spec_l04Root [(.ptr true [(.arr false (v0) (.ints IntKind.u8 (v1))), (.int .i64 (v2)), (.int .i64 (v3))]), (.agg [(.int .i64 (v4)), (.int .i64 (v5)), (.int .i64 (v6))]), (.int .i64 (v7)), (.ptr true [(.arr true (v8) (.r3 (v9)))])] =
 cond (decide (v5 = (4 : Int)))
 (cond (decide (List.length (v9 ++ [(v4, v5, v6)]) ≤ bigLen))
 (some [(.ptr true [(.arr false (v0) (.ints IntKind.u8 (v1))), (.int .i64 (v2)), (.int .i64 (v3))]), (.ptr true [(.arr true (v8 && decide (List.length (v9 ++ [(v4, v5, v6)]) = 0)) (.r3 (v9 ++ [(v4, v5, v6)])))])])
 (none))
 ((go k spec_l01Once [(.ptr true [(.arr false (v0) (.ints IntKind.u8 (v1))), (.int .i64 (v2)), (.int .i64 (v3))]), (.int .i64 (v7))]).bind fun r0 =>
 cond (!bit (nth r0 0))
 (cond (decide (List.length (v9 ++ [(v4, v5, v6)]) ≤ bigLen))
 (some [(.ptr true [(.arr false (v0) (.ints IntKind.u8 (v1))), (.int .i64 (D.toInt (D.cell 1 (nth r0 1)))), (.int .i64 (D.toInt (D.cell 2 (nth r0 1))))]), (.ptr true [(.arr true (v8 && decide (List.length (v9 ++ [(v4, v5, v6)]) = 0)) (.r3 (v9 ++ [(v4, v5, v6)])))])])
 (none))
 (lp k spec_l04Root [(.ptr true [(.arr false (v0) (.ints IntKind.u8 (v1))), (.int .i64 (v2)), (.int .i64 (v3))]), (.ptr true [(.arr true (v8) (.r3 (v9)))])] [] 4 k (qk1 v7 (0 : Int) v0 v1 (D.toInt (D.cell 1 (nth r0 1))) (D.toInt (D.cell 2 (nth r0 1))) v8 v9 v4 v5 v6))) := by kernel_rfl
theorem qhh (k n : Nat) (fu : List (Nat × Nat)) (v0 : Bool) (v1 : List Int) (v2 v3 : Int) (v8 : Bool) (v9 : List (Int × Int × Int)) (x0 x1 : Int) (z2 : Bool) (l3 : List Int) (x4 x5 : Int) (z6 : Bool) (l7 : List (Int × Int × Int)) (x8 x9 x10 : Int) : lp k spec_l04Root [(.ptr true [(.arr false (v0) (.ints IntKind.u8 (v1))), (.int .i64 (v2)), (.int .i64 (v3))]), (.ptr true [(.arr true (v8) (.r3 (v9)))])] fu 4 (n + 1) (qk1 x0 x1 z2 l3 x4 x5 z6 l7 x8 x9 x10) =
 cond (decide (x1 < (2 : Int)))
 ((go k spec_ChildOf [(.agg [(.int .i64 (x8)), (.int .i64 (x9)), (.int .i64 (x10))]), (.int .i64 (x1))]).bind fun r0 =>
 (go k spec_l04Root [(.ptr true [(.arr false (z2) (.ints IntKind.u8 (l3))), (.int .i64 (x4)), (.int .i64 (x5))]), (.agg [(.int .i64 (D.toInt (D.cell 0 (nth r0 0)))), (.int .i64 (D.toInt (D.cell 1 (nth r0 0)))), (.int .i64 (D.toInt (D.cell 2 (nth r0 0))))]), (.int .i64 (IntKind.wrap .i64 (x0 + (1 : Int)))), (.ptr true [(.arr true (z6) (.r3 (l7)))])]).bind fun r1 =>
 lp k spec_l04Root [(.ptr true [(.arr false (v0) (.ints IntKind.u8 (v1))), (.int .i64 (v2)), (.int .i64 (v3))]), (.ptr true [(.arr true (v8) (.r3 (v9)))])] fu 4 n (qk1 x0 (IntKind.wrap .i64 (x1 + (1 : Int))) z2 l3 (D.toInt (D.cell 1 (nth r1 0))) (D.toInt (D.cell 2 (nth r1 0))) (D.nil (D.cell 0 (nth r1 1))) (D.r3 (D.cell 0 (nth r1 1))) x8 x9 x10))
 (some [(.ptr true [(.arr false (z2) (.ints IntKind.u8 (l3))), (.int .i64 (x4)), (.int .i64 (x5))]), (.ptr true [(.arr true (z6) (.r3 (l7)))])]) := by kernel_rfl
def qk0 (x0 : Int) (z1 : Bool) (l2 : List Int) (x3 x4 : Int) (z5 : Bool) (l6 : List (Int × Int × Int)) (x7 : Int) (z8 : Bool) (l9 : List (Int × Int × Int)) (x10 : Int) : St := ⟨fill 24 [(0, (.ptr 1 (0) (0))), (2, (.ptr 3 (0) (0))), (3, (.ptr 5 (0) (0))), (4, (.int .i64 (x0)))], [(.ptr 1 (0) (0)), (.sl 0 none)], [(.arr false (z1) (.ints IntKind.u8 (l2))), (.box true [(.sl 0 none), (.int .i64 (x3)), (.int .i64 (x4))]), (.arr true (z5) (.r3 (l6))), (.box true [(.int .i64 (x7)), (.sl 2 none)]), (.arr true (z8) (.r3 (l9))), (.box true [(.int .i64 (x10)), (.sl 4 none)])]⟩
theorem qfi (k : Nat) (v0 : Bool) (v1 : List Int) (v2 v3 : Int) : go (k + 1) spec_l04Mesh [(.ptr true [(.arr false (v0) (.ints IntKind.u8 (v1))), (.int .i64 (v2)), (.int .i64 (v3))])] =
 (go k spec_l01Below [(.ptr true [(.arr false (v0) (.ints IntKind.u8 (v1))), (.int .i64 (v2)), (.int .i64 (v3))]), (.int .i64 ((3 : Int)))]).bind fun r0 =>
 lp k spec_l04Mesh [(.ptr true [(.arr false (v0) (.ints IntKind.u8 (v1))), (.int .i64 (v2)), (.int .i64 (v3))])] [] 3 k (qk0 (0 : Int) v0 v1 (D.toInt (D.cell 1 (nth r0 1))) (D.toInt (D.cell 2 (nth r0 1))) true ([]) (0 : Int) true ([]) (IntKind.wrap .i64 ((1 : Int) + D.toInt (nth r0 0)))) := by kernel_rfl
theorem qhg (k n : Nat) (fu : List (Nat × Nat)) (v0 : Bool) (v1 : List Int) (v2 v3 x0 : Int) (z1 : Bool) (l2 : List Int) (x3 x4 : Int) (z5 : Bool) (l6 : List (Int × Int × Int)) (x7 : Int) (z8 : Bool) (l9 : List (Int × Int × Int)) (x10 : Int) : lp k spec_l04Mesh [(.ptr true [(.arr false (v0) (.ints IntKind.u8 (v1))), (.int .i64 (v2)), (.int .i64 (v3))])] fu 3 (n + 1) (qk0 x0 z1 l2 x3 x4 z5 l6 x7 z8 l9 x10) =
 cond (decide (x0 < x10))
 ((go k spec_l01Below [(.ptr true [(.arr false (z1) (.ints IntKind.u8 (l2))), (.int .i64 (x3)), (.int .i64 (x4))]), (.int .i64 ((2 : Int)))]).bind fun r0 =>
 (go k spec_l04Root [(.ptr true [(.arr false (z1) (.ints IntKind.u8 (l2))), (.int .i64 (D.toInt (D.cell 1 (nth r0 1)))), (.int .i64 (D.toInt (D.cell 2 (nth r0 1))))]), (.agg [(.int .i64 (x0)), (.int .i64 (0 : Int)), (.int .i64 (0 : Int))]), (.int .i64 (IntKind.wrap .i64 ((1 : Int) + D.toInt (nth r0 0)))), (.ptr true [(.arr true (z8) (.r3 (l9)))])]).bind fun r1 =>
 lp k spec_l04Mesh [(.ptr true [(.arr false (v0) (.ints IntKind.u8 (v1))), (.int .i64 (v2)), (.int .i64 (v3))])] fu 3 n (qk0 (IntKind.wrap .i64 (x0 + (1 : Int))) z1 l2 (D.toInt (D.cell 1 (nth r1 0))) (D.toInt (D.cell 2 (nth r1 0))) z5 l6 x7 (D.nil (D.cell 0 (nth r1 1))) (D.r3 (D.cell 0 (nth r1 1))) x10))
 (some [(.agg [(.int .i64 (x10)), (.arr true (z8) (.r3 (l9)))]), (.ptr true [(.arr false (z1) (.ints IntKind.u8 (l2))), (.int .i64 (x3)), (.int .i64 (x4))])]) := by kernel_rfl
def qkt (x0 : Int) (z1 : Bool) (l2 : List (Int × Int × Int)) (x3 : Int) (z4 : Bool) (l5 : List (Int × Int × Int)) (x6 : Int) : St := ⟨fill 23 [(2, (.ptr 1 (0) (0))), (3, (.ptr 3 (0) (0))), (4, (.int .i64 (x0)))], [], [(.arr true (z1) (.r3 (l2))), (.box true [(.int .i64 (x3)), (.sl 0 none)]), (.arr true (z4) (.r3 (l5))), (.box true [(.int .i64 (x6)), (.sl 2 none)])]⟩
theorem qew (k : Nat) (a0 : Int) (a1z : Bool) (a1 : List (Int × Int × Int)) : go (k + 1) spec_Balance [(.agg [(.int .i64 (a0)), (.arr false (a1z) (.r3 (a1)))])] =
 (go k spec_l04Copy [(.agg [(.int .i64 (a0)), (.arr false (a1z) (.r3 (a1)))])]).bind fun r0 =>
 (go k spec_MeshOk [(.agg [(.int .i64 (a0)), (.arr false (a1z) (.r3 (a1)))])]).bind fun r1 =>
 cond (!bit (nth r1 0))
 (some [(.agg [(.int .i64 (D.toInt (D.cell 0 (nth r0 0)))), (.arr true (D.nil (D.cell 1 (nth r0 0))) (.r3 (D.r3 (D.cell 1 (nth r0 0)))))])])
 ((go k spec_l05First [(.agg [(.int .i64 (D.toInt (D.cell 0 (nth r0 0)))), (.arr false (D.nil (D.cell 1 (nth r0 0))) (.r3 (D.r3 (D.cell 1 (nth r0 0)))))])]).bind fun r2 =>
 lp k spec_Balance [] [] 5 k (qkt (D.toInt (nth r2 0)) true ([]) (0 : Int) (D.nil (D.cell 1 (nth r0 0))) (D.r3 (D.cell 1 (nth r0 0))) (D.toInt (D.cell 0 (nth r0 0))))) := by kernel_rfl
theorem qg9 (k n : Nat) (fu : List (Nat × Nat)) (x0 : Int) (z1 : Bool) (l2 : List (Int × Int × Int)) (x3 : Int) (z4 : Bool) (l5 : List (Int × Int × Int)) (x6 : Int) : lp k spec_Balance [] fu 5 (n + 1) (qkt x0 z1 l2 x3 z4 l5 x6) =
 cond (decide ((0 : Int) ≤ x0))
 ((go k spec_l05Coarser [(.agg [(.int .i64 (x6)), (.arr false (z4) (.r3 (l5)))]), (.int .i64 (x0))]).bind fun r0 =>
 (go k spec_l05Split [(.agg [(.int .i64 (x6)), (.arr false (z4) (.r3 (l5)))]), (.int .i64 (D.toInt (nth r0 0)))]).bind fun r1 =>
 (go k spec_l05First [(.agg [(.int .i64 (D.toInt (D.cell 0 (nth r1 0)))), (.arr false (D.nil (D.cell 1 (nth r1 0))) (.r3 (D.r3 (D.cell 1 (nth r1 0)))))])]).bind fun r2 =>
 lp k spec_Balance [] fu 5 n (qkt (D.toInt (nth r2 0)) z1 l2 x3 (D.nil (D.cell 1 (nth r1 0))) (D.r3 (D.cell 1 (nth r1 0))) (D.toInt (D.cell 0 (nth r1 0)))))
 (some [(.agg [(.int .i64 (x6)), (.arr true (z4) (.r3 (l5)))])]) := by kernel_rfl
theorem qfk (k : Nat) (a0 : Int) (a1z : Bool) (a1 : List (Int × Int × Int)) (b : Int) : go (k + 1) spec_l05Coarser [(.agg [(.int .i64 (a0)), (.arr false (a1z) (.r3 (a1)))]), (.int .i64 (b))] =
 cond (decide ((0 : Int) ≤ b) && decide (b < nI (List.length a1)))
 (cond (decide ((0 : Int) ≤ IntKind.wrap .i64 (b + (1 : Int))) && decide (IntKind.wrap .i64 (b + (1 : Int)) < nI (List.length a1)))
 (cond (decide (Prod.fst (Prod.snd (List.getD a1 (Int.toNat (IntKind.wrap .i64 (b + (1 : Int)))) zz3)) < Prod.fst (Prod.snd (List.getD a1 (Int.toNat b) zz3))))
 (some [(.int .i64 (IntKind.wrap .i64 (b + (1 : Int))))])
 (some [(.int .i64 (b))]))
 (none))
 (none) := by kernel_rfl
theorem qfo (k : Nat) (a0 : Int) (a1z : Bool) (a1 : List (Int × Int × Int)) (b : Int) : go (k + 1) spec_l05Split [(.agg [(.int .i64 (a0)), (.arr false (a1z) (.r3 (a1)))]), (.int .i64 (b))] =
 cond (decide ((0 : Int) ≤ b) && decide (b < nI (List.length a1)))
 ((go k spec_ChildOf [(.agg [(.int .i64 (Prod.fst (List.getD a1 (Int.toNat b) zz3))), (.int .i64 (Prod.fst (Prod.snd (List.getD a1 (Int.toNat b) zz3)))), (.int .i64 (Prod.snd (Prod.snd (List.getD a1 (Int.toNat b) zz3))))]), (.int .i64 (0 : Int))]).bind fun r0 =>
 cond (decide ((0 : Int) ≤ b) && decide (b < nI (List.length a1)))
 ((go k spec_ChildOf [(.agg [(.int .i64 (Prod.fst (List.getD a1 (Int.toNat b) zz3))), (.int .i64 (Prod.fst (Prod.snd (List.getD a1 (Int.toNat b) zz3)))), (.int .i64 (Prod.snd (Prod.snd (List.getD a1 (Int.toNat b) zz3))))]), (.int .i64 ((1 : Int)))]).bind fun r1 =>
 cond (decide ((0 : Int) ≤ (0 : Int)) && decide ((0 : Int) ≤ b) && decide (b ≤ nI (List.length a1)))
 (cond (decide (List.length ([] ++ List.take (Int.toNat b - Int.toNat (0 : Int)) (List.drop (0 + Int.toNat (0 : Int)) a1)) ≤ bigLen))
 (cond (decide (List.length ([] ++ List.take (Int.toNat b - Int.toNat (0 : Int)) (List.drop (0 + Int.toNat (0 : Int)) a1) ++ [(D.toInt (D.cell 0 (nth r0 0)), D.toInt (D.cell 1 (nth r0 0)), D.toInt (D.cell 2 (nth r0 0))), (D.toInt (D.cell 0 (nth r1 0)), D.toInt (D.cell 1 (nth r1 0)), D.toInt (D.cell 2 (nth r1 0)))]) ≤ bigLen))
 (cond (decide ((0 : Int) ≤ IntKind.wrap .i64 (b + (1 : Int))) && decide (IntKind.wrap .i64 (b + (1 : Int)) ≤ nI (List.length a1)) && decide (nI (List.length a1) ≤ nI (List.length a1)))
 (cond (decide (List.length ([] ++ List.take (Int.toNat b - Int.toNat (0 : Int)) (List.drop (0 + Int.toNat (0 : Int)) a1) ++ [(D.toInt (D.cell 0 (nth r0 0)), D.toInt (D.cell 1 (nth r0 0)), D.toInt (D.cell 2 (nth r0 0))), (D.toInt (D.cell 0 (nth r1 0)), D.toInt (D.cell 1 (nth r1 0)), D.toInt (D.cell 2 (nth r1 0)))] ++ List.take (Int.toNat (nI (List.length a1)) - Int.toNat (IntKind.wrap .i64 (b + (1 : Int)))) (List.drop (0 + Int.toNat (IntKind.wrap .i64 (b + (1 : Int)))) a1)) ≤ bigLen))
 (some [(.agg [(.int .i64 (a0)), (.arr true (false && decide (List.length ([] ++ List.take (Int.toNat b - Int.toNat (0 : Int)) (List.drop (0 + Int.toNat (0 : Int)) a1)) = 0) && decide (List.length ([] ++ List.take (Int.toNat b - Int.toNat (0 : Int)) (List.drop (0 + Int.toNat (0 : Int)) a1) ++ [(D.toInt (D.cell 0 (nth r0 0)), D.toInt (D.cell 1 (nth r0 0)), D.toInt (D.cell 2 (nth r0 0))), (D.toInt (D.cell 0 (nth r1 0)), D.toInt (D.cell 1 (nth r1 0)), D.toInt (D.cell 2 (nth r1 0)))]) = 0) && decide (List.length ([] ++ List.take (Int.toNat b - Int.toNat (0 : Int)) (List.drop (0 + Int.toNat (0 : Int)) a1) ++ [(D.toInt (D.cell 0 (nth r0 0)), D.toInt (D.cell 1 (nth r0 0)), D.toInt (D.cell 2 (nth r0 0))), (D.toInt (D.cell 0 (nth r1 0)), D.toInt (D.cell 1 (nth r1 0)), D.toInt (D.cell 2 (nth r1 0)))] ++ List.take (Int.toNat (nI (List.length a1)) - Int.toNat (IntKind.wrap .i64 (b + (1 : Int)))) (List.drop (0 + Int.toNat (IntKind.wrap .i64 (b + (1 : Int)))) a1)) = 0)) (.r3 ([] ++ List.take (Int.toNat b - Int.toNat (0 : Int)) (List.drop (0 + Int.toNat (0 : Int)) a1) ++ [(D.toInt (D.cell 0 (nth r0 0)), D.toInt (D.cell 1 (nth r0 0)), D.toInt (D.cell 2 (nth r0 0))), (D.toInt (D.cell 0 (nth r1 0)), D.toInt (D.cell 1 (nth r1 0)), D.toInt (D.cell 2 (nth r1 0)))] ++ List.take (Int.toNat (nI (List.length a1)) - Int.toNat (IntKind.wrap .i64 (b + (1 : Int)))) (List.drop (0 + Int.toNat (IntKind.wrap .i64 (b + (1 : Int)))) a1))))])])
 (none))
 (none))
 (none))
 (none))
 (none))
 (none))
 (none) := by kernel_rfl
theorem qfn (k : Nat) (v0 : Bool) (v1 : List Int) (v2 v3 : Int) : go (k + 1) spec_l05Mesh [(.ptr true [(.arr false (v0) (.ints IntKind.u8 (v1))), (.int .i64 (v2)), (.int .i64 (v3))])] =
 (go k spec_l04Mesh [(.ptr true [(.arr false (v0) (.ints IntKind.u8 (v1))), (.int .i64 (v2)), (.int .i64 (v3))])]).bind fun r0 =>
 (go k spec_Balance [(.agg [(.int .i64 (D.toInt (D.cell 0 (nth r0 0)))), (.arr false (D.nil (D.cell 1 (nth r0 0))) (.r3 (D.r3 (D.cell 1 (nth r0 0)))))])]).bind fun r1 =>
 some [(.agg [(.int .i64 (D.toInt (D.cell 0 (nth r1 0)))), (.arr true (D.nil (D.cell 1 (nth r1 0))) (.r3 (D.r3 (D.cell 1 (nth r1 0)))))]), (.ptr true [(.arr false (v0) (.ints IntKind.u8 (v1))), (.int .i64 (D.toInt (D.cell 1 (nth r0 1)))), (.int .i64 (D.toInt (D.cell 2 (nth r0 1))))])] := by kernel_rfl
def qk3 (x0 : Int) (z1 : Bool) (l2 : List Int) (x3 x4 : Int) (z5 : Bool) (l6 : List (Int × Int × Int)) (z7 : Bool) (l8 : List Int) (z9 : Bool) (l10 : List Int) (z11 : Bool) (l12 : List Int) (x13 : Int) (z14 : Bool) (l15 : List (Int × Int × Int)) (x16 : Int) (z17 : Bool) (l18 : List Int) (z19 : Bool) (l20 : List Int) (z21 : Bool) (l22 : List Int) (x23 : Int) : St := ⟨fill 67 [(0, (.ptr 1 (0) (0))), (2, (.ptr 6 (0) (0))), (3, (.ptr 8 (0) (0))), (4, (.ptr 12 (0) (0))), (5, (.int .i64 (x0)))], [(.ptr 1 (0) (0)), (.sl 0 none)], [(.arr false (z1) (.ints IntKind.u8 (l2))), (.box true [(.sl 0 none), (.int .i64 (x3)), (.int .i64 (x4))]), (.arr true (z5) (.r3 (l6))), (.arr true (z7) (.ints .i64 (l8))), (.arr true (z9) (.ints .i64 (l10))), (.arr true (z11) (.ints .i64 (l12))), (.box true [(.int .i64 (x13)), (.sl 2 none), (.sl 3 none), (.sl 4 none), (.sl 5 none)]), (.arr true (z14) (.r3 (l15))), (.box true [(.int .i64 (x16)), (.sl 7 none)]), (.arr true (z17) (.ints .i64 (l18))), (.arr true (z19) (.ints .i64 (l20))), (.arr true (z21) (.ints .i64 (l22))), (.box true [(.int .i64 (x23)), (.sl 7 none), (.sl 9 none), (.sl 10 none), (.sl 11 none)])]⟩
def qk4 (x0 x1 : Int) (z2 : Bool) (l3 : List Int) (x4 x5 : Int) (z6 : Bool) (l7 : List (Int × Int × Int)) (z8 : Bool) (l9 : List Int) (z10 : Bool) (l11 : List Int) (z12 : Bool) (l13 : List Int) (x14 : Int) (z15 : Bool) (l16 : List (Int × Int × Int)) (x17 : Int) (z18 : Bool) (l19 : List Int) (z20 : Bool) (l21 : List Int) (z22 : Bool) (l23 : List Int) (x24 : Int) : St := ⟨fill 67 [(0, (.ptr 1 (0) (0))), (2, (.ptr 6 (0) (0))), (3, (.ptr 8 (0) (0))), (4, (.ptr 12 (0) (0))), (6, (.int .i64 (x0))), (7, (.int .i64 (x1)))], [(.ptr 1 (0) (0)), (.sl 0 none)], [(.arr false (z2) (.ints IntKind.u8 (l3))), (.box true [(.sl 0 none), (.int .i64 (x4)), (.int .i64 (x5))]), (.arr true (z6) (.r3 (l7))), (.arr true (z8) (.ints .i64 (l9))), (.arr true (z10) (.ints .i64 (l11))), (.arr true (z12) (.ints .i64 (l13))), (.box true [(.int .i64 (x14)), (.sl 2 none), (.sl 3 none), (.sl 4 none), (.sl 5 none)]), (.arr true (z15) (.r3 (l16))), (.box true [(.int .i64 (x17)), (.sl 7 none)]), (.arr true (z18) (.ints .i64 (l19))), (.arr true (z20) (.ints .i64 (l21))), (.arr true (z22) (.ints .i64 (l23))), (.box true [(.int .i64 (x24)), (.sl 7 none), (.sl 9 none), (.sl 10 none), (.sl 11 none)])]⟩
theorem qfq (k : Nat) (v0 : Bool) (v1 : List Int) (v2 v3 : Int) : go (k + 1) spec_l07State [(.ptr true [(.arr false (v0) (.ints IntKind.u8 (v1))), (.int .i64 (v2)), (.int .i64 (v3))])] =
 (go k spec_l05Mesh [(.ptr true [(.arr false (v0) (.ints IntKind.u8 (v1))), (.int .i64 (v2)), (.int .i64 (v3))])]).bind fun r0 =>
 lp k spec_l07State [(.ptr true [(.arr false (v0) (.ints IntKind.u8 (v1))), (.int .i64 (v2)), (.int .i64 (v3))])] [] 4 k (qk3 (0 : Int) v0 v1 (D.toInt (D.cell 1 (nth r0 1))) (D.toInt (D.cell 2 (nth r0 1))) true ([]) true ([]) true ([]) true ([]) (0 : Int) (D.nil (D.cell 1 (nth r0 0))) (D.r3 (D.cell 1 (nth r0 0))) (D.toInt (D.cell 0 (nth r0 0))) true ([]) true ([]) true ([]) (D.toInt (D.cell 0 (nth r0 0)))) := by kernel_rfl
theorem qhj (k n : Nat) (fu : List (Nat × Nat)) (v0 : Bool) (v1 : List Int) (v2 v3 x0 : Int) (z1 : Bool) (l2 : List Int) (x3 x4 : Int) (z5 : Bool) (l6 : List (Int × Int × Int)) (z7 : Bool) (l8 : List Int) (z9 : Bool) (l10 : List Int) (z11 : Bool) (l12 : List Int) (x13 : Int) (z14 : Bool) (l15 : List (Int × Int × Int)) (x16 : Int) (z17 : Bool) (l18 : List Int) (z19 : Bool) (l20 : List Int) (z21 : Bool) (l22 : List Int) (x23 : Int) : lp k spec_l07State [(.ptr true [(.arr false (v0) (.ints IntKind.u8 (v1))), (.int .i64 (v2)), (.int .i64 (v3))])] fu 4 (n + 1) (qk3 x0 z1 l2 x3 x4 z5 l6 z7 l8 z9 l10 z11 l12 x13 z14 l15 x16 z17 l18 z19 l20 z21 l22 x23) =
 cond (decide (x0 < x16))
 ((go k spec_l01Below [(.ptr true [(.arr false (z1) (.ints IntKind.u8 (l2))), (.int .i64 (x3)), (.int .i64 (x4))]), (.int .i64 ((4 : Int)))]).bind fun r0 =>
 (go k spec_l01Below [(.ptr true [(.arr false (z1) (.ints IntKind.u8 (l2))), (.int .i64 (D.toInt (D.cell 1 (nth r0 1)))), (.int .i64 (D.toInt (D.cell 2 (nth r0 1))))]), (.int .i64 ((5000 : Int)))]).bind fun r1 =>
 cond (decide (List.length (l22 ++ [IntKind.wrap .i64 (D.toInt (nth r0 0) * D.toInt (nth r1 0))]) ≤ bigLen))
 (lp k spec_l07State [(.ptr true [(.arr false (v0) (.ints IntKind.u8 (v1))), (.int .i64 (v2)), (.int .i64 (v3))])] fu 4 n (qk3 (IntKind.wrap .i64 (x0 + (1 : Int))) z1 l2 (D.toInt (D.cell 1 (nth r1 1))) (D.toInt (D.cell 2 (nth r1 1))) z5 l6 z7 l8 z9 l10 z11 l12 x13 z14 l15 x16 z17 l18 z19 l20 (z21 && decide (List.length (l22 ++ [IntKind.wrap .i64 (D.toInt (nth r0 0) * D.toInt (nth r1 0))]) = 0)) (l22 ++ [IntKind.wrap .i64 (D.toInt (nth r0 0) * D.toInt (nth r1 0))]) x23))
 (none))
 ((go k spec_l01Below [(.ptr true [(.arr false (z1) (.ints IntKind.u8 (l2))), (.int .i64 (x3)), (.int .i64 (x4))]), (.int .i64 ((20000 : Int)))]).bind fun r2 =>
 lp k spec_l07State [(.ptr true [(.arr false (v0) (.ints IntKind.u8 (v1))), (.int .i64 (v2)), (.int .i64 (v3))])] fu 9 k (qk4 (IntKind.wrap .i64 ((1 : Int) + D.toInt (nth r2 0))) (0 : Int) z1 l2 (D.toInt (D.cell 1 (nth r2 1))) (D.toInt (D.cell 2 (nth r2 1))) z5 l6 z7 l8 z9 l10 z11 l12 x13 z14 l15 x16 z17 l18 z19 l20 z21 l22 x23)) := by kernel_rfl
theorem qhk (k n : Nat) (fu : List (Nat × Nat)) (v0 : Bool) (v1 : List Int) (v2 v3 x0 x1 : Int) (z2 : Bool) (l3 : List Int) (x4 x5 : Int) (z6 : Bool) (l7 : List (Int × Int × Int)) (z8 : Bool) (l9 : List Int) (z10 : Bool) (l11 : List Int) (z12 : Bool) (l13 : List Int) (x14 : Int) (z15 : Bool) (l16 : List (Int × Int × Int)) (x17 : Int) (z18 : Bool) (l19 : List Int) (z20 : Bool) (l21 : List Int) (z22 : Bool) (l23 : List Int) (x24 : Int) : lp k spec_l07State [(.ptr true [(.arr false (v0) (.ints IntKind.u8 (v1))), (.int .i64 (v2)), (.int .i64 (v3))])] fu 9 (n + 1) (qk4 x0 x1 z2 l3 x4 x5 z6 l7 z8 l9 z10 l11 z12 l13 x14 z15 l16 x17 z18 l19 z20 l21 z22 l23 x24) =
 cond (decide (x1 < nI (List.length l16)))
 ((go k spec_l01Below [(.ptr true [(.arr false (z2) (.ints IntKind.u8 (l3))), (.int .i64 (x4)), (.int .i64 (x5))]), (.int .i64 (x0))]).bind fun r0 =>
 (go k spec_l01Once [(.ptr true [(.arr false (z2) (.ints IntKind.u8 (l3))), (.int .i64 (D.toInt (D.cell 1 (nth r0 1)))), (.int .i64 (D.toInt (D.cell 2 (nth r0 1))))]), (.int .i64 ((6 : Int)))]).bind fun r1 =>
 cond (bit (nth r1 0))
 ((go k spec_l01Below [(.ptr true [(.arr false (z2) (.ints IntKind.u8 (l3))), (.int .i64 (D.toInt (D.cell 1 (nth r1 1)))), (.int .i64 (D.toInt (D.cell 2 (nth r1 1))))]), (.int .i64 ((3 : Int)))]).bind fun r2 =>
 cond (decide (List.length (l19 ++ [D.toInt (nth r2 0)]) ≤ bigLen))
 ((go k spec_l01Below [(.ptr true [(.arr false (z2) (.ints IntKind.u8 (l3))), (.int .i64 (D.toInt (D.cell 1 (nth r2 1)))), (.int .i64 (D.toInt (D.cell 2 (nth r2 1))))]), (.int .i64 ((200 : Int)))]).bind fun r3 =>
 (go k spec_l01Below [(.ptr true [(.arr false (z2) (.ints IntKind.u8 (l3))), (.int .i64 (D.toInt (D.cell 1 (nth r3 1)))), (.int .i64 (D.toInt (D.cell 2 (nth r3 1))))]), (.int .i64 (IntKind.wrap .i64 (D.toInt (nth r2 0) + (1 : Int))))]).bind fun r4 =>
 cond (decide (List.length (l21 ++ [IntKind.wrap .i64 (IntKind.wrap .i64 (D.toInt (nth r2 0) * D.toInt (nth r3 0)) + D.toInt (nth r4 0))]) ≤ bigLen))
 (lp k spec_l07State [(.ptr true [(.arr false (v0) (.ints IntKind.u8 (v1))), (.int .i64 (v2)), (.int .i64 (v3))])] fu 9 n (qk4 x0 (IntKind.wrap .i64 (x1 + (1 : Int))) z2 l3 (D.toInt (D.cell 1 (nth r4 1))) (D.toInt (D.cell 2 (nth r4 1))) z6 l7 z8 l9 z10 l11 z12 l13 x14 z15 l16 x17 (z18 && decide (List.length (l19 ++ [D.toInt (nth r2 0)]) = 0)) (l19 ++ [D.toInt (nth r2 0)]) (z20 && decide (List.length (l21 ++ [IntKind.wrap .i64 (IntKind.wrap .i64 (D.toInt (nth r2 0) * D.toInt (nth r3 0)) + D.toInt (nth r4 0))]) = 0)) (l21 ++ [IntKind.wrap .i64 (IntKind.wrap .i64 (D.toInt (nth r2 0) * D.toInt (nth r3 0)) + D.toInt (nth r4 0))]) z22 l23 x24))
 (none))
 (none))
 (cond (decide (List.length (l19 ++ [D.toInt (nth r0 0)]) ≤ bigLen))
 ((go k spec_l01Below [(.ptr true [(.arr false (z2) (.ints IntKind.u8 (l3))), (.int .i64 (D.toInt (D.cell 1 (nth r1 1)))), (.int .i64 (D.toInt (D.cell 2 (nth r1 1))))]), (.int .i64 ((200 : Int)))]).bind fun r5 =>
 (go k spec_l01Below [(.ptr true [(.arr false (z2) (.ints IntKind.u8 (l3))), (.int .i64 (D.toInt (D.cell 1 (nth r5 1)))), (.int .i64 (D.toInt (D.cell 2 (nth r5 1))))]), (.int .i64 (IntKind.wrap .i64 (D.toInt (nth r0 0) + (1 : Int))))]).bind fun r6 =>
 cond (decide (List.length (l21 ++ [IntKind.wrap .i64 (IntKind.wrap .i64 (D.toInt (nth r0 0) * D.toInt (nth r5 0)) + D.toInt (nth r6 0))]) ≤ bigLen))
 (lp k spec_l07State [(.ptr true [(.arr false (v0) (.ints IntKind.u8 (v1))), (.int .i64 (v2)), (.int .i64 (v3))])] fu 9 n (qk4 x0 (IntKind.wrap .i64 (x1 + (1 : Int))) z2 l3 (D.toInt (D.cell 1 (nth r6 1))) (D.toInt (D.cell 2 (nth r6 1))) z6 l7 z8 l9 z10 l11 z12 l13 x14 z15 l16 x17 (z18 && decide (List.length (l19 ++ [D.toInt (nth r0 0)]) = 0)) (l19 ++ [D.toInt (nth r0 0)]) (z20 && decide (List.length (l21 ++ [IntKind.wrap .i64 (IntKind.wrap .i64 (D.toInt (nth r0 0) * D.toInt (nth r5 0)) + D.toInt (nth r6 0))]) = 0)) (l21 ++ [IntKind.wrap .i64 (IntKind.wrap .i64 (D.toInt (nth r0 0) * D.toInt (nth r5 0)) + D.toInt (nth r6 0))]) z22 l23 x24))
 (none))
 (none)))
 (some [(.agg [(.int .i64 (x24)), (.arr true (z15) (.r3 (l16))), (.arr true (z18) (.ints .i64 (l19))), (.arr true (z20) (.ints .i64 (l21))), (.arr true (z22) (.ints .i64 (l23)))]), (.ptr true [(.arr false (z2) (.ints IntKind.u8 (l3))), (.int .i64 (x4)), (.int .i64 (x5))])]) := by kernel_rfl
def qku (x0 : Int) (z1 : Bool) (l2 : List Int) (x3 x4 : Int) (z5 : Bool) (l6 : List Int) : St := ⟨fill 19 [(3, (.ptr 1 (0) (0))), (4, (.sl 2 none)), (5, (.int .i64 (x0)))], [], [(.arr false (z1) (.ints IntKind.u8 (l2))), (.box true [(.sl 0 none), (.int .i64 (x3)), (.int .i64 (x4))]), (.arr true (z5) (.ints .i64 (l6)))]⟩
def qkv (x0 x1 : Int) (z2 : Bool) (l3 : List Int) (z4 : Bool) (l5 : List Int) : St := ⟨fill 32 [(0, (.sl 0 none)), (3, (.int .i64 (x0))), (4, (.int .i64 (x1)))], [(.sl 0 none), .un, (.sl 1 none), .un, .un, .un, (.sl 0 none), .un, .un, .un, .un, .un, .un, .un, .un, .un, .un, .un, .un], [(.arr false (z2) (.ints IntKind.u8 (l3))), (.arr true (z4) (.ints .i64 (l5)))]⟩
theorem qez (k : Nat) (az : Bool) (a : List Int) : go (k + 1) spec_DrawPlaces [(.arr false (az) (.ints IntKind.u8 (a)))] =
 lp k spec_DrawPlaces [] [] 4200003 k (qkv (IntKind.wrap .i64 ((98231 : Int) + nI (List.length a))) (0 : Int) az a true ([])) := by kernel_rfl
theorem qha (k n : Nat) (fu : List (Nat × Nat)) (x0 : Int) (z1 : Bool) (l2 : List Int) (x3 x4 : Int) (z5 : Bool) (l6 : List Int) : lp k spec_DrawPlaces [] fu 4 (n + 1) (qku x0 z1 l2 x3 x4 z5 l6) =
 cond (decide (x0 < (12 : Int)))
 ((go k spec_l01Below [(.ptr true [(.arr false (z1) (.ints IntKind.u8 (l2))), (.int .i64 (x3)), (.int .i64 (x4))]), (.int .i64 ((10000 : Int)))]).bind fun r0 =>
 cond (decide (List.length (l6 ++ [D.toInt (nth r0 0)]) ≤ bigLen))
 (lp k spec_DrawPlaces [] fu 4 n (qku (IntKind.wrap .i64 (x0 + (1 : Int))) z1 l2 (D.toInt (D.cell 1 (nth r0 1))) (D.toInt (D.cell 2 (nth r0 1))) (z5 && decide (List.length (l6 ++ [D.toInt (nth r0 0)]) = 0)) (l6 ++ [D.toInt (nth r0 0)])))
 (none))
 (some [(.arr true (z5) (.ints .i64 (l6)))]) := by kernel_rfl
theorem qhb (k n : Nat) (fu : List (Nat × Nat)) (x0 x1 : Int) (z2 : Bool) (l3 : List Int) (z4 : Bool) (l5 : List Int) : lp k spec_DrawPlaces [] fu 4200003 (n + 1) (qkv x0 x1 z2 l3 z4 l5) =
 cond (decide (x1 < nI (List.length l3)))
 (cond (decide (x1 < (4000 : Int)))
 (cond (decide ((0 : Int) ≤ x1) && decide (x1 < nI (List.length l3)))
 (lp k spec_DrawPlaces [] fu 4200003 n (qkv (bitN BinOp.and .i64 (IntKind.wrap .i64 (IntKind.wrap .i64 (IntKind.wrap .i64 (x0 * (131 : Int)) + IntKind.wrap .i64 (List.getD l3 (Int.toNat x1) (0 : Int))) + (7 : Int))) (1073741823 : Int)) (IntKind.wrap .i64 (x1 + (1 : Int))) z2 l3 z4 l5))
 (none))
 (lp k spec_DrawPlaces [] fu 4 k (qku (0 : Int) z2 l3 (0 : Int) x0 false ([]))))
 (lp k spec_DrawPlaces [] fu 4 k (qku (0 : Int) z2 l3 (0 : Int) x0 false ([]))) := by kernel_rfl
end Go.Proofs.Ytcaapedadpnjoaa
end
section
namespace Go.Proofs.Ytcaapedadpnjoaa
open Go.Ev
set_option maxRecDepth 20000
theorem qjp (o : Bool) (d0 : D) (l : List D) : (D.ptr o (d0 :: l)).cell 0 = d0 := Eq.trans rfl rfl
theorem qjq (o : Bool) (d0 d1 : D) (l : List D) : (D.ptr o (d0 :: d1 :: l)).cell 1 = d1 := Eq.trans rfl rfl
theorem qjr (o : Bool) (d0 d1 d2 : D) (l : List D) : (D.ptr o (d0 :: d1 :: d2 :: l)).cell 2 = d2 := Eq.trans rfl rfl
theorem qay (x : Int) : 0 ≤ bitN .and .i64 x 255 ∧ bitN .and .i64 x 255 ≤ 255 := by
  have h : (BitVec.ofInt IntKind.i64.bits x &&& BitVec.ofInt IntKind.i64.bits 255).toNat ≤ 255 := by
    rw [BitVec.toNat_and]; exact Nat.le_trans Nat.and_le_right (by decide)
  show 0 ≤ IntKind.wrap .i64 _ ∧ IntKind.wrap .i64 _ ≤ 255
  rw [qmn (by omega) (by omega)]; omega
theorem qcl (k : Nat) (hk : 2000000 ≤ k) (z : Bool) (l : List Int) (i h : Int) (hl : (l.length : Int) ≤ 1048576) (h0 : 0 ≤ i) (h1 : i ≤ l.length) : ∃ v i' h' : Int, go (k + 1) spec_l01Byte [.ptr true [.arr false (z) (.ints .u8 (l)), .int .i64 (i), .int .i64 (h)]] = some [.int .i64 v, .ptr true [.arr false (z) (.ints .u8 (l)), .int .i64 (i'), .int .i64 (h')]] ∧ (0 ≤ v ∧ v ≤ 255) ∧ 0 ≤ i' ∧ i' ≤ l.length := by
  have e := qfd (k + 0) z l i h
  by_cases g : i < l.length
  · simp (disch := omega) only [nI, dT, Bool.and_true, qmn, qdj] at e; exact ⟨_, _, _, e, qay _, by omega, by omega⟩
  · simp (disch := omega) only [nI, dF, dT, Bool.and_false, qmn, qdh] at e; exact ⟨_, _, _, e, qay _, by omega, by omega⟩
theorem ql7 {v b : Int} (h : 0 ≤ v) (hb : 1 ≤ b) : 0 ≤ Int.tmod v b ∧ Int.tmod v b < b := ⟨Int.tmod_nonneg b h, Int.tmod_lt_of_pos v (by omega)⟩
theorem qck (k : Nat) (hk : 2000000 ≤ k) (z : Bool) (l : List Int) (i h b : Int) (hl : (l.length : Int) ≤ 1048576) (h0 : 0 ≤ i) (h1 : i ≤ l.length) (hb : 1 ≤ b) (hb' : b ≤ 1000000) : ∃ v i' h' : Int, go (k + 2) spec_l01Below [.ptr true [.arr false (z) (.ints .u8 (l)), .int .i64 (i), .int .i64 (h)], .int .i64 b] = some [.int .i64 v, .ptr true [.arr false (z) (.ints .u8 (l)), .int .i64 (i'), .int .i64 (h')]] ∧ (0 ≤ v ∧ v < b) ∧ 0 ≤ i' ∧ i' ≤ l.length := by
  have e := qfc (k + 1) z l i h b
  obtain ⟨v1, i1, k1, e1, b1, q1, r1⟩ := qcl k (by omega) z l i h hl h0 h1
  by_cases g : b ≤ 256
  · simp (disch := omega) only [dF, dT, e1, Bool.not_false, qdj, qax, nth0, ql9, nth1, qjq, qjr, qmn, qdh] at e
    exact ⟨_, _, _, e, ql7 b1.1 hb, q1, r1⟩
  · obtain ⟨v2, i2, k2, e2, b2, q2, r2⟩ := qcl k (by omega) z l i1 k1 hl q1 r1
    obtain ⟨v3, i3, k3, e3, b3, q3, r3⟩ := qcl k (by omega) z l i2 k2 hl q2 r2
    obtain ⟨v4, i4, k4, e4, b4, q4, r4⟩ := qcl k (by omega) z l i3 k3 hl q3 r3
    simp (disch := omega) only [dF, e1, Bool.not_false, qdj, qax, nth0, ql9, nth1, qjq, qjr, e2, qmn, e3, e4, qdh] at e
    exact ⟨_, _, _, e, ql7 (by omega) hb, q4, r4⟩
theorem qcn (k : Nat) (hk : 2000000 ≤ k) (z : Bool) (l : List Int) (i h b : Int) (hl : (l.length : Int) ≤ 1048576) (h0 : 0 ≤ i) (h1 : i ≤ l.length) (hb : 1 ≤ b) (hb' : b ≤ 1000000) : ∃ (v : Bool) (i' h' : Int), go (k + 3) spec_l01Once [.ptr true [.arr false (z) (.ints .u8 (l)), .int .i64 (i), .int .i64 (h)], .int .i64 b] = some [.bool v, .ptr true [.arr false (z) (.ints .u8 (l)), .int .i64 (i'), .int .i64 (h')]] ∧ 0 ≤ i' ∧ i' ≤ l.length := by
  have e := qff (k + 2) z l i h b
  obtain ⟨v1, i1, k1, e1, b1, q1, r1⟩ := qck k (by omega) z l i h b hl h0 h1 hb hb'
  simp (disch := omega) only [e1, qax, nth0, ql9, nth1, qjq, qjr] at e
  exact ⟨_, _, _, e, q1, r1⟩
theorem qb5 (k : Nat) (hk : 2000000 ≤ k) (r v ix b : Int) (hid : idOk r v ix = true) (hv : v < 4) (hb : b = 0 ∨ b = 1) : go (k + 3) spec_ChildOf [.agg [.int .i64 r, .int .i64 v, .int .i64 ix], .int .i64 b] = some [.agg [.int .i64 r, .int .i64 (v + 1), .int .i64 (2 * ix + b)], .bool true] := by
  rw [qex]
  have h := qgf.1 hid
  have hp : pow2 v ≤ 16 := by
    rcases lev (qgh.2 h.2.1) with rfl | rfl | rfl | rfl | rfl <;> decide
  have hi : inR b 0 1 = true := qgh.2 (by omega)
  simp (disch := omega) only [qb8, hid, bit, dF, qcm, hi, qmn, qax, nth0, ql8, Bool.not_true, qdh]
def qai (K : Nat) (z : Bool) (l : List Int) (v : Int) (N : Nat) : Prop := ∀ (r ix c i h : Int) (q : Bool) (out : List Cell), idOk r v ix = true → 1 ≤ c → c ≤ 90 + v → 0 ≤ i → i ≤ l.length → out.length + N ≤ 4096 →
    ∃ (new : List Cell) (i' h' : Int), go K spec_l04Root [.ptr true [.arr false (z) (.ints .u8 (l)), .int .i64 (i), .int .i64 (h)], .agg [.int .i64 r, .int .i64 v, .int .i64 ix], .int .i64 c, .ptr true [.arr true q (.r3 out)]] = some [.ptr true [.arr false (z) (.ints .u8 (l)), .int .i64 (i'), .int .i64 (h')], .ptr true [.arr true false (.r3 (out ++ new))]] ∧ (0 ≤ i' ∧ i' ≤ l.length) ∧ (1 ≤ new.length ∧ new.length ≤ N) ∧ okp (qlr r v ix) new = true ∧ endp (qlr r v ix) new = qlr r v ix + qmi v
theorem qj0 {r v ix : Int} (hid : idOk r v ix = true) : okp (qlr r v ix) [(r, v, ix)] = true ∧ endp (qlr r v ix) [(r, v, ix)] = qlr r v ix + qmi v :=
  ⟨qjc.2 ⟨hid, rfl, rfl⟩, rfl⟩
theorem qjz (k : Nat) (hk : 2000000 ≤ k) (z : Bool) (l : List Int) (hl : (l.length : Int) ≤ 1048576) : qai (k + 4) z l 4 1 := by
  intro r ix c i h q out hid hc hc' h0 h1 ho
  have e := qfj (k + 3) z l i h r 4 ix c q out
  have lo : (out ++ [(r, (4 : Int), ix)]).length = out.length + 1 := by simp
  simp (disch := omega) only [dTT, big0, dT, dF, Bool.and_false, qdj, bit] at e
  exact ⟨[(r, 4, ix)], i, h, e, ⟨h0, h1⟩, by simp, qj0 hid⟩
theorem qj1 (k : Nat) (hk : 2000000 ≤ k) (z : Bool) (l : List Int) (hl : (l.length : Int) ≤ 1048576) (v : Int) (h0v : 0 ≤ v) (hv : v < 4) (N : Nat) (hN : 1 ≤ N) (H : qai (k + 4) z l (v + 1) N) : qai (k + 4 + 1) z l v (2 * N) := by
  intro r ix c i h q out hid hc hc' h0 h1 ho
  have e := qfj (k + 4) z l i h r v ix c q out
  have lo : (out ++ [(r, v, ix)]).length = out.length + 1 := by simp
  obtain ⟨b, i1, k1, e1, q1, r1⟩ := qcn (k + 1) (by omega) z l i h c hl h0 h1 hc (by omega)
  cases b
  · simp (disch := omega) only [dF, big0, dT, Bool.and_false, qdj, e1, bit, qax, nth0, ql8, Bool.not_false, nth1, qjq, ql9, qjr, qdh] at e
    exact ⟨[(r, v, ix)], i1, k1, e, ⟨q1, r1⟩, ⟨by simp, by simp; omega⟩, qj0 hid⟩
  · simp (disch := omega) only [dF, big0, dT, Bool.and_false, qdj, e1, bit, qax, nth0, ql8, Bool.not_true, nth1, qjq, ql9, qjr, qdh] at e
    have ch := qdd hid hv
    obtain ⟨n1, i2, k2, e2, p2, s2, o2, d2⟩ := H r (2 * ix) (c + 1) i1 k1 q out ch.1 (by omega) (by omega) q1 r1 (by omega)
    have l2 : (out ++ n1).length = out.length + n1.length := List.length_append ..
    obtain ⟨n2, i3, k3, e3, p3, s3, o3, d3⟩ := H r (2 * ix + 1) (c + 1) i2 k2 false (out ++ n1) ch.2.1 (by omega) (by omega) p2.1 p2.2 (by omega)
    have cA := qb5 (k + 1) (by omega) r v ix 0 hid hv (Or.inl rfl)
    have cB := qb5 (k + 1) (by omega) r v ix 1 hid hv (Or.inr rfl)
    rw [Int.add_zero] at cA
    have f0 := qhh (k + 4) (k + 3) [] z l i h q out c 0 z l i1 k1 q out r v ix
    have f1 := qhh (k + 4) (k + 2) [] z l i h q out c 1 z l i2 k2 false (out ++ n1) r v ix
    have f2 := qhh (k + 4) (k + 1) [] z l i h q out c 2 z l i3 k3 false (out ++ n1 ++ n2) r v ix
    have w1 : IntKind.wrap .i64 (c + 1) = c + 1 := qmn (by omega) (by omega)
    have w2 : IntKind.wrap .i64 ((0 : Int) + 1) = 1 := by rw [qmn (by omega) (by omega)]; rfl
    have w3 : IntKind.wrap .i64 ((1 : Int) + 1) = 2 := by rw [qmn (by omega) (by omega)]; rfl
    simp (disch := omega) only [dF, qmn, qdh] at f2
    simp (disch := omega) only [dT, cB, w1, w3, qax, nth0, qc7, ql9, qc8, qc9, e3, qjq, qjr, nth1, qjp, qja, qjs, f2, qdj] at f1
    simp (disch := omega) only [dT, cA, w1, w2, qax, nth0, qc7, ql9, qc8, qc9, e2, qjq, qjr, nth1, qjp, qja, qjs, f1, qdj] at f0
    rw [f0, List.append_assoc] at e
    refine ⟨n1 ++ n2, i3, k3, e, p3, ?_, ?_, ?_⟩
    · rw [List.length_append]; omega
    · rw [qjb, Bool.and_eq_true]
      rw [ch.2.2.1] at o2 d2
      rw [ch.2.2.2.1] at o3
      exact ⟨o2, by rw [d2]; exact o3⟩
    · rw [qf0]
      rw [ch.2.2.1] at d2
      rw [ch.2.2.2.1] at d3
      rw [d2, d3, Int.add_assoc, ch.2.2.2.2]
theorem qcr (k : Nat) (hk : 2000000 ≤ k) (z : Bool) (l : List Int) (hl : (l.length : Int) ≤ 1048576) : qai (k + 8) z l 0 16 :=
  qj1 (k + 3) (by omega) z l hl 0 (by omega) (by omega) 8 (by omega) (qj1 (k + 2) (by omega) z l hl 1 (by omega) (by omega) 4 (by omega) (qj1 (k + 1) (by omega) z l hl 2 (by omega) (by omega) 2 (by omega) (qj1 k hk z l hl 3 (by omega) (by omega) 1 (by omega) (qjz k hk z l hl))))
end Go.Proofs.Ytcaapedadpnjoaa
end
section
namespace Go.Proofs.Ytcaapedadpnjoaa
open Go.Ev
set_option maxRecDepth 20000
theorem qil (k : Nat) (hk : 2000000 ≤ k) (fu : List (Nat × Nat)) (v0 : Bool) (v1 : List Int) (v2 v3 : Int) (z : Bool) (l : List Int) (hl : (l.length : Int) ≤ 1048576) (z5 : Bool) (l6 : List Cell) (x7 : Int) (R : Nat) (hR : 1 ≤ R) (hR' : R ≤ 3) : ∀ (n t : Nat) (i h : Int) (q : Bool) (out : List Cell), t ≤ R → R - t < n → 0 ≤ i → i ≤ l.length → (q = false ∨ t = 0) → out.length ≤ 16 * t → okp 0 out = true → endp 0 out = 16 * t →
    ∃ (out' : List Cell) (i' h' : Int), lp (k + 8) spec_l04Mesh [(.ptr true [(.arr false (v0) (.ints IntKind.u8 (v1))), (.int .i64 (v2)), (.int .i64 (v3))])] fu 3 (n) (qk0 (t : Int) z l i h z5 l6 x7 q out (R : Int)) = some [.agg [.int .i64 (R : Int), .arr true false (.r3 out')], .ptr true [.arr false (z) (.ints .u8 (l)), .int .i64 (i'), .int .i64 (h')]] ∧ (0 ≤ i' ∧ i' ≤ l.length) ∧ qiy R 0 out' = true
  | 0, t, i, h, q, out, ht, hn, h0, h1, hq, ho, o, d => by omega
  | n + 1, t, i, h, q, out, ht, hn, h0, h1, hq, ho, o, d => by
    have e := qhg (k + 8) n fu v0 v1 v2 v3 (t : Int) z l i h z5 l6 x7 q out (R : Int)
    by_cases g : t < R
    · obtain ⟨v, i1, k1, e1, b1, q1, r1⟩ := qck (k + 6) (by omega) z l i h 2 hl h0 h1 (by omega) (by omega)
      have id : idOk (t : Int) 0 0 = true := qgf.2 ⟨by omega, by omega, by omega, by decide⟩
      obtain ⟨n1, i2, k2, e2, p2, s2, o2, d2⟩ := qcr k (by omega) z l hl (t : Int) 0 (1 + v) i1 k1 q out id (by omega) (by omega) q1 r1 (by omega)
      have st : qlr (t : Int) 0 0 = 16 * t := by rw [qlt id]; omega
      rw [st] at o2 d2
      have lo : (out ++ n1).length = out.length + n1.length := List.length_append ..
      obtain ⟨out', i', h', e3, p3, o3⟩ := qil k hk fu v0 v1 v2 v3 z l hl z5 l6 x7 R hR hR' n (t + 1) i2 k2 false (out ++ n1) (by omega) (by omega) p2.1 p2.2 (Or.inl rfl) (by omega) (by rw [qjb, d, Bool.and_eq_true]; exact ⟨o, o2⟩) (by rw [qf0, d, d2, w0]; omega)
      simp (disch := omega) only [dT, e1, qc6, qmn, qax, nth1, qjq, ql9, qjr, nth0, e2, qjp, qja, qjs, e3, qdj] at e
      exact ⟨out', i', h', e, p3, o3⟩
    · have : t = R := by omega
      subst this
      rcases hq with rfl | h
      · simp (disch := omega) only [dF, qc6, qmn, qdh] at e
        exact ⟨out, i, h, e, ⟨h0, h1⟩, qi0.2 ⟨o, by omega, by rw [d]; omega⟩⟩
      · omega
theorem qcq (k : Nat) (hk : 2000000 ≤ k) (z : Bool) (l : List Int) (i h : Int) (hl : (l.length : Int) ≤ 1048576) (h0 : 0 ≤ i) (h1 : i ≤ l.length) :
    ∃ (r : Int) (out : List Cell) (i' h' : Int), go (k + 9) spec_l04Mesh [.ptr true [.arr false (z) (.ints .u8 (l)), .int .i64 (i), .int .i64 (h)]] = some [.agg [.int .i64 r, .arr true false (.r3 out)], .ptr true [.arr false (z) (.ints .u8 (l)), .int .i64 (i'), .int .i64 (h')]] ∧ (0 ≤ i' ∧ i' ≤ l.length) ∧ qiy r 0 out = true ∧ r ≤ 3 := by
  have e := qfi (k + 8) z l i h
  obtain ⟨v, i1, k1, e1, b1, q1, r1⟩ := qck (k + 6) (by omega) z l i h 3 hl h0 h1 (by omega) (by omega)
  obtain ⟨w, rfl⟩ : ∃ w : Nat, v = (w : Int) := ⟨v.toNat, by omega⟩
  obtain ⟨out, i2, k2, e2, p2, o2⟩ := qil k hk [] z l i h z l hl true [] 0 (1 + w) (by omega) (by omega) (k + 8) 0 i1 k1 true [] (by omega) (by omega) q1 r1 (Or.inr rfl) (by simp) rfl rfl
  rw [show ((1 + w : Nat) : Int) = 1 + (w : Int) by omega, show ((0 : Nat) : Int) = 0 from rfl] at e2
  rw [show ((1 + w : Nat) : Int) = 1 + (w : Int) by omega] at o2
  simp (disch := omega) only [e1, qax, nth1, qjq, ql9, qjr, nth0, qmn, e2] at e
  exact ⟨_, _, _, _, e, p2, o2, by omega⟩
theorem qcs (k : Nat) (hk : 2000000 ≤ k) (a0 : Int) (a1z : Bool) (a1 : List Cell) (i : Nat) (hl : (a1.length : Int) ≤ 1048576) (hi : i + 1 < a1.length) : go (k + 1) spec_l05Coarser [.agg [.int .i64 a0, .arr false a1z (.r3 a1)], .int .i64 (i : Int)] = some [.int .i64 ((qde a1 i : Nat) : Int)] := by
  rw [qfk]
  unfold qde
  simp (disch := omega) only [dT, nI, Bool.and_true, qc6, qmn, Int.toNat_natCast, qdj]
  by_cases g : qhq a1 (i + 1) < qhq a1 i
  · rw [if_pos g]; simp only [qhq] at g; simp (disch := omega) only [dT, qdj]
  · rw [if_neg g]; simp only [qhq] at g; simp (disch := omega) only [dF, qdh]
theorem ql5 {α : Type} (l : List α) (i : Nat) : List.take (l.length - i) (List.drop i l) = l.drop i := by
  apply List.take_of_length_le; rw [List.length_drop]; omega
theorem ton0 : Int.toNat 0 = 0 := Eq.trans rfl rfl
theorem qcw (k : Nat) (hk : 2000000 ≤ k) (a0 : Int) (a1z : Bool) (a1 : List Cell) (i : Nat) (hl : (a1.length : Int) ≤ 1000000) (hi : i < a1.length) (hid : idOk (a1.getD i zz3).1 (a1.getD i zz3).2.1 (a1.getD i zz3).2.2 = true) (hv : (a1.getD i zz3).2.1 < 4) : go (k + 4) spec_l05Split [.agg [.int .i64 a0, .arr false a1z (.r3 a1)], .int .i64 (i : Int)] = some [.agg [.int .i64 a0, .arr true false (.r3 (qlk a1 i))]] := by
  rw [qfo]
  have cA := qb5 k (by omega) _ _ _ 0 hid hv (Or.inl rfl)
  have cB := qb5 k (by omega) _ _ _ 1 hid hv (Or.inr rfl)
  rw [Int.add_zero] at cA
  have l1 : (a1.take i).length = i := by rw [List.length_take]; omega
  have l2 : ∀ x y : Cell, (a1.take i ++ [x, y]).length = i + 2 := fun x y => by rw [List.length_append, l1]; rfl
  have l3 : ∀ x y : Cell, (a1.take i ++ [x, y] ++ a1.drop (i + 1)).length = a1.length + 1 := fun x y => by rw [List.length_append, l2, List.length_drop]; omega
  simp (disch := omega) only [dT, nI, Bool.and_true, Int.toNat_natCast, cA, cB, ton0, Nat.sub_zero, Nat.zero_add, List.drop_zero, qi9, l1, big0, l2, qc6, qmn, ql5, l3, Bool.false_and, dF, Bool.and_false, qdj, qax, nth0, qc7, ql9, qc8, qc9]
  rw [List.append_assoc]; rfl
theorem qic (k : Nat) (hk : 2000000 ≤ k) (fu : List (Nat × Nat)) (z1 : Bool) (l2 : List Cell) (x3 r : Int) : ∀ (N n : Nat) (l : List Cell), N < n → qiy r 0 l = true → 129 ≤ N + l.length →
    lp (k + 5) spec_Balance [] fu 5 (n) (qkt (unb l) z1 l2 x3 false l r) = some [.agg [.int .i64 r, .arr true false (.r3 (balN N l))]]
  | N, 0, l, hn, h, hN => by omega
  | 0, n + 1, l, hn, h, hN => by have := qi3 h; omega
  | N + 1, n + 1, l, hn, h, hN => by
    have ml := qi3 h
    have e := qg9 (k + 5) n fu (unb l) z1 l2 x3 false l r
    unfold balN
    by_cases g : unb l < 0
    · rw [if_pos g]; simp (disch := omega) only [dF, qdh] at e; exact e
    · rw [if_neg g]
      obtain ⟨j, ej, h1, h2⟩ := qmc (by omega : 0 ≤ unb l)
      have c := qdf h h1 h2
      have sm := qlm h c.1 c.2
      have sl := qll c.1
      have id := ((qi2 _ _ _ h).2.2.2.1 _ c.1).2.2
      have IH := qic k hk fu z1 l2 x3 r N n _ (by omega) sm (by omega)
      rw [ej, Int.toNat_natCast]
      rw [ej] at e
      have mv := qi4 _ _ _ sm
      have mm := qi3 sm
      simp (disch := omega) only [dT, qcs, qax, nth0, ql9, qdj] at e
      rw [qcw (k + 1) (by omega) _ _ _ _ (by omega) c.1 id c.2] at e
      simp (disch := omega) only [qax, nth0, qc7, ql9, qc8, qja, qjs] at e
      rw [qcu (k + 4) (by omega) _ _ _ (by omega) mv] at e
      simp (disch := omega) only [qax, nth0, ql9, IH] at e
      exact e
theorem qb4 (k : Nat) (hk : 2000000 ≤ k) (a0 : Int) (a1z : Bool) (a1 : List Cell) (h : qiy a0 0 a1 = true) : go (k + 6) spec_Balance [.agg [.int .i64 a0, .arr false a1z (.r3 a1)]] = some [.agg [.int .i64 a0, .arr true false (.r3 (bal a1))]] := by
  rw [qew]
  have ml := qi3 h
  have mv := qi4 _ _ _ h
  simp (disch := omega) only [qco, qcc, h, bit, qax, nth0, ql8, Bool.not_true, qdh, qc7, ql9, qc8, qja, qjs]
  rw [qcu (k + 4) (by omega) _ _ _ (by omega) mv]
  simp (disch := omega) only [qax, nth0, ql9]
  exact qic k hk [] true [] 0 a0 _ _ a1 (by omega) h (by omega)
theorem qcv (k : Nat) (hk : 2000000 ≤ k) (z : Bool) (l : List Int) (i h : Int) (hl : (l.length : Int) ≤ 1048576) (h0 : 0 ≤ i) (h1 : i ≤ l.length) :
    ∃ (r : Int) (out : List Cell) (i' h' : Int), go (k + 10) spec_l05Mesh [.ptr true [.arr false (z) (.ints .u8 (l)), .int .i64 (i), .int .i64 (h)]] = some [.agg [.int .i64 r, .arr true false (.r3 out)], .ptr true [.arr false (z) (.ints .u8 (l)), .int .i64 (i'), .int .i64 (h')]] ∧ (0 ≤ i' ∧ i' ≤ l.length) ∧ qiy r 0 out = true ∧ unb out < 0 ∧ r ≤ 3 := by
  have e := qfn (k + 9) z l i h
  obtain ⟨r, out, i1, k1, e1, q1, m1, r1⟩ := qcq k (by omega) z l i h hl h0 h1
  have e2 := qb4 (k + 3) (by omega) r false out m1
  simp (disch := omega) only [e1, qax, nth0, qc7, ql9, qc8, qja, qjs, e2, nth1, qjq, qjr] at e
  exact ⟨_, _, _, _, e, q1, (qat m1).1, (qat m1).2, r1⟩
end Go.Proofs.Ytcaapedadpnjoaa
end
section
namespace Go.Proofs.Ytcaapedadpnjoaa
open Go.Ev
set_option maxRecDepth 20000
theorem qiw : ∀ (m t : List Int) (x y : Int), m.length = t.length → qir m t = true → 0 ≤ x → x ≤ 10000000 → 0 ≤ y → y ≤ 1000 * x → qir (m ++ [x]) (t ++ [y]) = true
  | [], [], x, y, _, _, h1, h2, h3, h4 => by simp only [List.nil_append, qir, Bool.and_eq_true, qgh]; exact ⟨⟨h1, h2⟩, ⟨h3, h4⟩, trivial⟩
  | [], _ :: _, _, _, h, _, _, _, _, _ => by simp at h
  | _ :: _, [], _, _, h, _, _, _, _, _ => by simp at h
  | a :: m, b :: t, x, y, hl, h, h1, h2, h3, h4 => by
    simp only [List.cons_append, qir, Bool.and_eq_true] at h ⊢
    exact ⟨h.1, h.2.1, qiw m t x y (by simpa using hl) h.2.2 h1 h2 h3 h4⟩
theorem qaw : ∀ (a : List Int) (x : Int), qau a = true → 0 ≤ x → x ≤ 1000000 → qau (a ++ [x]) = true
  | [], x, _, h1, h2 => by simp only [List.nil_append, qau, Bool.and_eq_true, qgh]; exact ⟨⟨h1, h2⟩, trivial⟩
  | a :: l, x, h, h1, h2 => by
    simp only [List.cons_append, qau, Bool.and_eq_true] at h ⊢
    exact ⟨h.1, qaw l x h.2 h1 h2⟩
theorem qio (k : Nat) (hk : 2000000 ≤ k) (fu : List (Nat × Nat)) (v0 : Bool) (v1 : List Int) (v2 v3 : Int) (x0 : Int) (hx : 1 ≤ x0) (hx' : x0 ≤ 20000) (z : Bool) (l : List Int) (hl : (l.length : Int) ≤ 1048576) (z6 : Bool) (l7 : List Cell) (z8 : Bool) (l9 : List Int) (z10 : Bool) (l11 : List Int) (z12 : Bool) (l13 : List Int) (x14 : Int) (c : List Cell) (hc : 1 ≤ c.length) (hc' : c.length ≤ 128) (x17 : Int) (bd : List Int) (r : Int) :
    ∀ (n t : Nat) (i h : Int) (zm zt : Bool) (m tr : List Int), t ≤ c.length → c.length - t < n → 0 ≤ i → i ≤ l.length → (zm = false ∨ t = 0) → (zt = false ∨ t = 0) → m.length = t → tr.length = t → qir m tr = true → isum m ≤ 20000 * t →
    ∃ (m' t' : List Int) (i' h' : Int), lp (k + 10) spec_l07State [(.ptr true [(.arr false (v0) (.ints IntKind.u8 (v1))), (.int .i64 (v2)), (.int .i64 (v3))])] fu 9 (n) (qk4 x0 (t : Int) z l i h z6 l7 z8 l9 z10 l11 z12 l13 x14 false c x17 zm m zt tr false bd r) = some [.agg [.int .i64 (r), .arr true (false) (.r3 (c)), .arr true (false) (.ints .i64 (m')), .arr true (false) (.ints .i64 (t')), .arr true (false) (.ints .i64 (bd))], .ptr true [.arr false (z) (.ints .u8 (l)), .int .i64 (i'), .int .i64 (h')]] ∧ (0 ≤ i' ∧ i' ≤ l.length) ∧ m'.length = c.length ∧ t'.length = c.length ∧ qir m' t' = true ∧ isum m' ≤ 2560000
  | 0, t, i, h, zm, zt, m, tr, ht, hn, h0, h1, hzm, hzt, lm, lt, ok, sm => by omega
  | n + 1, t, i, h, zm, zt, m, tr, ht, hn, h0, h1, hzm, hzt, lm, lt, ok, sm => by
    have e := qhk (k + 10) n fu v0 v1 v2 v3 x0 (t : Int) z l i h z6 l7 z8 l9 z10 l11 z12 l13 x14 false c x17 zm m zt tr false bd r
    by_cases g : t < c.length
    · have la : ∀ x : Int, (m ++ [x]).length = t + 1 := fun x => by rw [List.length_append, lm]; rfl
      have lb : ∀ x : Int, (tr ++ [x]).length = t + 1 := fun x => by rw [List.length_append, lt]; rfl
      have step : ∀ (x y : Int), 0 ≤ x → x < 20000 → 0 ≤ y → y ≤ 1000 * x → ∀ (i2 k2 : Int), 0 ≤ i2 → i2 ≤ l.length → _ := fun x y hx0 hx1 hy0 hy1 i2 k2 hi0 hi1 =>
        qio k hk fu v0 v1 v2 v3 x0 hx hx' z l hl z6 l7 z8 l9 z10 l11 z12 l13 x14 c hc hc' x17 bd r n (t + 1) i2 k2 false false (m ++ [x]) (tr ++ [y]) (by omega) (by omega) hi0 hi1 (Or.inl rfl) (Or.inl rfl) (la x) (lb y) (qiw m tr x y (by omega) ok (by omega) (by omega) hy0 hy1) (by rw [qgk]; simp only [isum]; omega)
      obtain ⟨u1, i1, k1, e1, b1, q1, r1⟩ := qck (k + 8) (by omega) z l i h x0 hl h0 h1 hx (by omega)
      obtain ⟨u2, i2, k2, e2, q2, r2⟩ := qcn (k + 7) (by omega) z l i1 k1 6 hl q1 r1 (by omega) (by omega)
      cases u2
      · obtain ⟨u3, i3, k3, e3, b3, q3, r3⟩ := qck (k + 8) (by omega) z l i2 k2 200 hl q2 r2 (by omega) (by omega)
        obtain ⟨u4, i4, k4, e4, b4, q4, r4⟩ := qck (k + 8) (by omega) z l i3 k3 (u1 + 1) hl q3 r3 (by omega) (by omega)
        have p0 : 0 ≤ u1 * u3 := Int.mul_nonneg b1.1 b3.1
        have p1 : u1 * u3 ≤ u1 * 199 := Int.mul_le_mul_of_nonneg_left (by omega) b1.1
        obtain ⟨m', t', i', h', e5, p5⟩ := step u1 (u1 * u3 + u4) (by omega) (by omega) (by omega) (by omega) i4 k4 q4 r4
        simp (disch := omega) only [nI, dT, e1, bit, la, big0, lb, qc6, qmn, dF, Bool.and_false, qdj, qax, nth1, qjq, ql9, qjr, e2, nth0, ql8, e3, e4, e5, qdh] at e
        exact ⟨m', t', i', h', e, p5⟩
      · obtain ⟨u0, i0, k0, e0, b0, q0, r0⟩ := qck (k + 8) (by omega) z l i2 k2 3 hl q2 r2 (by omega) (by omega)
        obtain ⟨u3, i3, k3, e3, b3, q3, r3⟩ := qck (k + 8) (by omega) z l i0 k0 200 hl q0 r0 (by omega) (by omega)
        obtain ⟨u4, i4, k4, e4, b4, q4, r4⟩ := qck (k + 8) (by omega) z l i3 k3 (u0 + 1) hl q3 r3 (by omega) (by omega)
        have p0 : 0 ≤ u0 * u3 := Int.mul_nonneg b0.1 b3.1
        have p1 : u0 * u3 ≤ u0 * 199 := Int.mul_le_mul_of_nonneg_left (by omega) b0.1
        obtain ⟨m', t', i', h', e5, p5⟩ := step u0 (u0 * u3 + u4) (by omega) (by omega) (by omega) (by omega) i4 k4 q4 r4
        simp (disch := omega) only [nI, dT, e1, bit, la, big0, lb, qc6, qmn, dF, Bool.and_false, qdj, qax, nth1, qjq, ql9, qjr, e2, nth0, ql8, e0, e3, e4, e5] at e
        exact ⟨m', t', i', h', e, p5⟩
    · have : zm = false := by rcases hzm with h | h <;> omega
      subst this
      have : zt = false := by rcases hzt with h | h <;> omega
      subst this
      simp (disch := omega) only [nI, dF, bit, big0, qc6, qmn, Bool.false_and, qdh] at e
      exact ⟨m, tr, i, h, e, ⟨h0, h1⟩, by omega, by omega, ok, by omega⟩
theorem qin (k : Nat) (hk : 2000000 ≤ k) (fu : List (Nat × Nat)) (v0 : Bool) (v1 : List Int) (v2 v3 : Int) (z : Bool) (l : List Int) (hl : (l.length : Int) ≤ 1048576) (z6 : Bool) (l7 : List Cell) (z8 : Bool) (l9 : List Int) (z10 : Bool) (l11 : List Int) (z12 : Bool) (l13 : List Int) (x14 : Int) (c : List Cell) (R : Nat) (hR : 1 ≤ R) (hR' : R ≤ 3) (hm : qiy R 0 c = true) (hu : unb c < 0) :
    ∀ (n t : Nat) (i h : Int) (zb : Bool) (bd : List Int), t ≤ R → R - t < n → 0 ≤ i → i ≤ l.length → (zb = false ∨ t = 0) → bd.length = t → qau bd = true →
    ∃ (m' t' bd' : List Int) (i' h' : Int), lp (k + 10) spec_l07State [(.ptr true [(.arr false (v0) (.ints IntKind.u8 (v1))), (.int .i64 (v2)), (.int .i64 (v3))])] fu 4 (n) (qk3 (t : Int) z l i h z6 l7 z8 l9 z10 l11 z12 l13 x14 false c (R : Int) true [] true [] zb bd (R : Int)) = some [.agg [.int .i64 ((R : Int)), .arr true (false) (.r3 (c)), .arr true (false) (.ints .i64 (m')), .arr true (false) (.ints .i64 (t')), .arr true (false) (.ints .i64 (bd'))], .ptr true [.arr false (z) (.ints .u8 (l)), .int .i64 (i'), .int .i64 (h')]] ∧ (0 ≤ i' ∧ i' ≤ l.length) ∧ StF (R : Int) c m' t' bd' ∧ isum m' ≤ 2560000
  | 0, t, i, h, zb, bd, ht, hn, h0, h1, hz, lb, ok => by omega
  | n + 1, t, i, h, zb, bd, ht, hn, h0, h1, hz, lb, ok => by
    have e := qhj (k + 10) n fu v0 v1 v2 v3 (t : Int) z l i h z6 l7 z8 l9 z10 l11 z12 l13 x14 false c (R : Int) true [] true [] zb bd (R : Int)
    by_cases g : t < R
    · have la : ∀ x : Int, (bd ++ [x]).length = t + 1 := fun x => by rw [List.length_append, lb]; rfl
      obtain ⟨u1, i1, k1, e1, b1, q1, r1⟩ := qck (k + 8) (by omega) z l i h 4 hl h0 h1 (by omega) (by omega)
      obtain ⟨u2, i2, k2, e2, b2, q2, r2⟩ := qck (k + 8) (by omega) z l i1 k1 5000 hl q1 r1 (by omega) (by omega)
      have p0 : 0 ≤ u1 * u2 := Int.mul_nonneg b1.1 b2.1
      have p1 : u1 * u2 ≤ u1 * 4999 := Int.mul_le_mul_of_nonneg_left (by omega) b1.1
      obtain ⟨m', t', bd', i', h', e5, p5⟩ := qin k hk fu v0 v1 v2 v3 z l hl z6 l7 z8 l9 z10 l11 z12 l13 x14 c R hR hR' hm hu n (t + 1) i2 k2 false (bd ++ [u1 * u2]) (by omega) (by omega) q2 r2 (Or.inl rfl) (la _) (qaw bd _ ok p0 (by omega))
      simp (disch := omega) only [dT, e1, la, big0, qc6, qmn, dF, Bool.and_false, qdj, qax, nth1, qjq, ql9, qjr, e2, nth0, e5] at e
      exact ⟨m', t', bd', i', h', e, p5⟩
    · have : zb = false := by rcases hz with h | h <;> omega
      subst this
      obtain ⟨u1, i1, k1, e1, b1, q1, r1⟩ := qck (k + 8) (by omega) z l i h 20000 hl h0 h1 (by omega) (by omega)
      have ml := qi3 hm
      obtain ⟨m', t', i', h', e5, p5, lm, lt, mk, sm⟩ := qio k hk fu v0 v1 v2 v3 (1 + u1) (by omega) (by omega) z l hl z6 l7 z8 l9 z10 l11 z12 l13 x14 c ml.1 ml.2 (R : Int) bd (R : Int) (k + 10) 0 i1 k1 true true [] [] (by omega) (by omega) q1 r1 (Or.inr rfl) (Or.inr rfl) rfl rfl rfl (by simp [isum])
      rw [show ((0 : Nat) : Int) = 0 from rfl] at e5
      simp (disch := omega) only [dF, big0, qc6, qmn, Bool.false_and, e1, qax, nth0, ql9, nth1, qjq, qjr, e5, qdh] at e
      exact ⟨m', t', bd, i', h', e, p5, ⟨hm, hu, lm, lt, by omega, mk, ok, by omega⟩, sm⟩
theorem qcy (k : Nat) (hk : 2000000 ≤ k) (z : Bool) (l : List Int) (i h : Int) (hl : (l.length : Int) ≤ 1048576) (h0 : 0 ≤ i) (h1 : i ≤ l.length) :
    ∃ (r : Int) (c : List Cell) (m t b : List Int) (i' h' : Int), go (k + 11) spec_l07State [.ptr true [.arr false (z) (.ints .u8 (l)), .int .i64 (i), .int .i64 (h)]] = some [.agg [.int .i64 (r), .arr true (false) (.r3 (c)), .arr true (false) (.ints .i64 (m)), .arr true (false) (.ints .i64 (t)), .arr true (false) (.ints .i64 (b))], .ptr true [.arr false (z) (.ints .u8 (l)), .int .i64 (i'), .int .i64 (h')]] ∧ (0 ≤ i' ∧ i' ≤ l.length) ∧ StF r c m t b ∧ r ≤ 3 ∧ isum m ≤ 2560000 := by
  have e := qfq (k + 10) z l i h
  obtain ⟨r, c, i1, k1, e1, q1, hm, hu, r3⟩ := qcv k (by omega) z l i h hl h0 h1
  have rr := (qi2 _ _ _ hm).1
  obtain ⟨R, rfl⟩ : ∃ R : Nat, r = (R : Int) := ⟨r.toNat, by omega⟩
  obtain ⟨m', t', bd', i', h', e5, p5, S, sm⟩ := qin k hk [] z l i h z l hl true [] true [] true [] true [] 0 c R (by omega) (by omega) hm hu (k + 10) 0 i1 k1 true [] (by omega) (by omega) q1.1 q1.2 (Or.inr rfl) rfl rfl
  rw [show ((0 : Nat) : Int) = 0 from rfl] at e5
  simp (disch := omega) only [e1, qax, nth1, qjq, ql9, qjr, nth0, qc8, qja, qjs, qc7, e5] at e
  exact ⟨_, _, _, _, _, _, _, e, p5, S, r3, sm⟩
def qaf (p : List Int) : Prop := p.length = 12 ∧ ∀ x ∈ p, 0 ≤ x ∧ x < 10000
theorem qie (k : Nat) (hk : 2000000 ≤ k) (fu : List (Nat × Nat)) (z : Bool) (l : List Int) (hl : (l.length : Int) ≤ 1048576) :
    ∀ (n t : Nat) (i h : Int) (q : Bool) (p : List Int), t ≤ 12 → 12 - t < n → 0 ≤ i → i ≤ l.length → q = false → p.length = t → (∀ x ∈ p, 0 ≤ x ∧ x < 10000) →
    ∃ p' : List Int, lp (k + 2) spec_DrawPlaces [] fu 4 (n) (qku (t : Int) z l i h q p) = some [.arr true false (.ints .i64 p')] ∧ qaf p'
  | 0, t, i, h, q, p, ht, hn, h0, h1, hq, hp, hx => by omega
  | n + 1, t, i, h, q, p, ht, hn, h0, h1, hq, hp, hx => by
    have e := qha (k + 2) n fu (t : Int) z l i h q p
    subst hq
    by_cases g : t < 12
    · have la : ∀ x : Int, (p ++ [x]).length = t + 1 := fun x => by rw [List.length_append, hp]; rfl
      obtain ⟨u1, i1, k1, e1, b1, q1, r1⟩ := qck k (by omega) z l i h 10000 hl h0 h1 (by omega) (by omega)
      obtain ⟨p', e2, p2⟩ := qie k hk fu z l hl n (t + 1) i1 k1 false (p ++ [u1]) (by omega) (by omega) q1 r1 rfl (la _) (fun x hx' => by
        rcases List.mem_append.1 hx' with h | h
        · exact hx x h
        · rw [List.mem_singleton] at h; omega)
      simp (disch := omega) only [dT, e1, la, big0, qc6, qmn, dF, Bool.and_false, qdj, qax, nth1, qjq, ql9, qjr, nth0, e2] at e
      exact ⟨p', e, p2⟩
    · simp (disch := omega) only [dF, big0, qc6, qmn, Bool.false_and, qdh] at e
      exact ⟨p, e, by omega, hx⟩
theorem qid (k : Nat) (hk : 2000000 ≤ k) (fu : List (Nat × Nat)) (z : Bool) (l : List Int) (hl : (l.length : Int) ≤ 1048576) (z4 : Bool) (l5 : List Int) :
    ∀ (n t : Nat) (h : Int), t ≤ l.length → l.length - t < n →
    ∃ p : List Int, lp (k + 2) spec_DrawPlaces [] fu 4200003 (n) (qkv h (t : Int) z l z4 l5) = some [.arr true false (.ints .i64 p)] ∧ qaf p
  | 0, t, h, ht, hn => by omega
  | n + 1, t, h, ht, hn => by
    have e := qhb (k + 2) n fu h (t : Int) z l z4 l5
    obtain ⟨p, e1, p1⟩ := qie k hk fu z l hl (k + 2) 0 0 h false [] (by omega) (by omega) (by omega) (by omega) rfl rfl (fun x hx => by cases hx)
    rw [show ((0 : Nat) : Int) = 0 from rfl] at e1
    by_cases g : t < l.length
    · by_cases g2 : (t : Int) < 4000
      · simp (disch := omega) only [nI, dT, Bool.and_true, Int.toNat_natCast, qc6, qmn, qdj] at e
        obtain ⟨p, e3, p3⟩ := qid k hk fu z l hl z4 l5 n (t + 1) _ (by omega) (by omega)
        exact ⟨p, e.trans e3, p3⟩
      · simp (disch := omega) only [nI, dT, dF, Bool.and_true, Int.toNat_natCast, qc6, qmn, qdj, e1, qdh] at e
        exact ⟨_, e, p1⟩
    · simp (disch := omega) only [nI, dF, dT, Bool.and_false, Int.toNat_natCast, qc6, qmn, qdh, e1] at e
      exact ⟨_, e, p1⟩
theorem qb7 (k : Nat) (hk : 2000000 ≤ k) (z : Bool) (l : List Int) (hl : (l.length : Int) ≤ 1048576) :
    ∃ p : List Int, go (k + 3) spec_DrawPlaces [.arr false z (.ints .u8 l)] = some [.arr true false (.ints .i64 p)] ∧ qaf p := by
  have e := qez (k + 2) z l
  obtain ⟨p, e3, p3⟩ := qid k hk [] z l hl true [] (k + 2) 0 (IntKind.wrap .i64 (98231 + nI l.length)) (by omega) (by omega)
  rw [show ((0 : Nat) : Int) = 0 from rfl] at e3
  exact ⟨p, e.trans e3, p3⟩
end Go.Proofs.Ytcaapedadpnjoaa
end
section
namespace Go.Proofs.Ytcaapedadpnjoaa
open Go.Ev
theorem qeo (k : Nat) (az : Bool) (a : List Int) : go (k + 1) laws_big [(.arr false (az) (.ints IntKind.u8 (a)))] =
 some [(.bool (decide ((1048576 : Int) < nI (List.length a))))] := by kernel_rfl
def qkb (x0 x1 : Int) (z2 : Bool) (l3 : List Int) (z4 : Bool) (l5 : List Int) (z6 : Bool) (l7 : List (List RC)) : St := ⟨fill 66 [(5, (.sl 0 none)), (6, (.sl 1 none)), (30, (.sl 2 none)), (31, (.int .i64 (x0))), (32, (.int .i64 (x1)))], [], [(.arr true (z2) (.ints .i64 (l3))), (.arr true (z4) (.ints .i64 (l5))), (.rows false (z6) [.n, .r3, .is, .is, .is] (l7))]⟩
def qkc (x0 x1 x2 x3 : Int) (z4 : Bool) (l5 : List Int) (z6 : Bool) (l7 : List Int) (z8 : Bool) (l9 : List (List RC)) (z10 : Bool) (l11 : List Int) : St := ⟨fill 66 [(5, (.sl 0 none)), (6, (.sl 1 none)), (30, (.sl 2 none)), (31, (.int .i64 (x0))), (32, (.int .i64 (x1))), (37, (.sl 3 none)), (38, (.int .i64 (x2))), (39, (.int .i64 (x3)))], [], [(.arr true (z4) (.ints .i64 (l5))), (.arr true (z6) (.ints .i64 (l7))), (.rows false (z8) [.n, .r3, .is, .is, .is] (l9)), (.arr false (z10) (.ints .i64 (l11)))]⟩
theorem qdr (k : Nat) (az : Bool) (a : List (List RC)) : go (k + 1) impl_EnvelopeOf [(.rows (az) [.n, .r3, .is, .is, .is] (a))] =
 (go k impl_within [(.int .i64 (nI (List.length a))), (.int .i64 ((1 : Int))), (.int .i64 ((100 : Int)))]).bind fun r0 =>
 cond (!bit (nth r0 0))
 (some [(.arr true (true) (.ints .i64 ([]))), (.arr true (true) (.ints .i64 ([]))), (.bool (false))])
 ((go k slices_ContainsFunc_impl_State_impl_State [(.rows (az) [.n, .r3, .is, .is, .is] (a)), (.fn impl_EnvelopeOf_1 [(.ptr false [(.rows (az) [.n, .r3, .is, .is, .is] (a))])])]).bind fun r1 =>
 cond (bit (nth r1 0))
 (some [(.arr true (true) (.ints .i64 ([]))), (.arr true (true) (.ints .i64 ([]))), (.bool (false))])
 (cond (decide ((0 : Int) ≤ (0 : Int)) && decide ((0 : Int) < nI (List.length a)))
 ((go k slices_Clone_int_int [(.arr false (RC.nil (rcAt (rrow a (Int.toNat (0 : Int))) 2)) (.ints .i64 (RC.ints (rcAt (rrow a (Int.toNat (0 : Int))) 2))))]).bind fun r2 =>
 cond (decide ((0 : Int) ≤ (0 : Int)) && decide ((0 : Int) < nI (List.length a)))
 ((go k slices_Clone_int_int [(.arr false (RC.nil (rcAt (rrow a (Int.toNat (0 : Int))) 2)) (.ints .i64 (RC.ints (rcAt (rrow a (Int.toNat (0 : Int))) 2))))]).bind fun r3 =>
 lp k impl_EnvelopeOf [] [] 5 k (qkb (nI (List.length a)) (0 : Int) (D.nil (nth r2 0)) (D.ints (nth r2 0)) (D.nil (nth r3 0)) (D.ints (nth r3 0)) az a))
 (none))
 (none))) := by kernel_rfl
theorem qgr (k n : Nat) (fu : List (Nat × Nat)) (x0 x1 : Int) (z2 : Bool) (l3 : List Int) (z4 : Bool) (l5 : List Int) (z6 : Bool) (l7 : List (List RC)) : lp k impl_EnvelopeOf [] fu 5 (n + 1) (qkb x0 x1 z2 l3 z4 l5 z6 l7) =
 cond (decide (x1 < x0))
 (cond (decide ((0 : Int) ≤ x1) && decide (x1 < nI (List.length l7)))
 (lp k impl_EnvelopeOf [] ((5, n) :: fu) 8 k (qkc x0 x1 (nI (List.length (RC.ints (rcAt (rrow l7 (Int.toNat x1)) 2)))) (0 : Int) z2 l3 z4 l5 z6 l7 (RC.nil (rcAt (rrow l7 (Int.toNat x1)) 2)) (RC.ints (rcAt (rrow l7 (Int.toNat x1)) 2))))
 (none))
 (some [(.arr true (z2) (.ints .i64 (l3))), (.arr true (z4) (.ints .i64 (l5))), (.bool (true))]) := by kernel_rfl
theorem qgs (k n : Nat) (fu : List (Nat × Nat)) (x0 x1 x2 x3 : Int) (z4 : Bool) (l5 : List Int) (z6 : Bool) (l7 : List Int) (z8 : Bool) (l9 : List (List RC)) (z10 : Bool) (l11 : List Int) : lp k impl_EnvelopeOf [] fu 8 (n + 1) (qkc x0 x1 x2 x3 z4 l5 z6 l7 z8 l9 z10 l11) =
 cond (decide (x3 < x2))
 (cond (decide ((0 : Int) ≤ x3) && decide (x3 < nI (List.length l11)))
 (cond (decide ((0 : Int) ≤ x3) && decide (x3 < nI (List.length l5)))
 (cond (decide ((0 : Int) ≤ x3) && decide (x3 < nI (List.length l7)))
 (cond (decide ((0 : Int) ≤ x3) && decide (x3 < nI (List.length l5)))
 (cond (decide ((0 : Int) ≤ x3) && decide (x3 < nI (List.length l7)))
 (lp k impl_EnvelopeOf [] fu 8 n (qkc x0 x1 x2 (IntKind.wrap .i64 (x3 + (1 : Int))) z4 (List.set l5 (Int.toNat x3) (if List.getD l11 (Int.toNat x3) (0 : Int) < List.getD l5 (Int.toNat x3) (0 : Int) then List.getD l11 (Int.toNat x3) (0 : Int) else List.getD l5 (Int.toNat x3) (0 : Int))) z6 (List.set l7 (Int.toNat x3) (if List.getD l11 (Int.toNat x3) (0 : Int) > List.getD l7 (Int.toNat x3) (0 : Int) then List.getD l11 (Int.toNat x3) (0 : Int) else List.getD l7 (Int.toNat x3) (0 : Int))) z8 l9 z10 l11))
 (none))
 (none))
 (none))
 (none))
 (none))
 (lp k impl_EnvelopeOf [] fu 5 (fuelOf fu 5) (qkb x0 (IntKind.wrap .i64 (x1 + (1 : Int))) z4 l5 z6 l7 z8 l9)) := by kernel_rfl
theorem qds (k : Nat) (v0 : Int) (v1 : Bool) (v2 : List (Int × Int × Int)) (v3 : Bool) (v4 : List Int) (v5 : Bool) (v6 : List Int) (v7 : Bool) (v8 : List Int) (v9 : Bool) (v10 : List (List RC)) : go (k + 1) impl_EnvelopeOf_1 [(.agg [(.int .i64 (v0)), (.arr false (v1) (.r3 (v2))), (.arr false (v3) (.ints .i64 (v4))), (.arr false (v5) (.ints .i64 (v6))), (.arr false (v7) (.ints .i64 (v8)))]), (.ptr false [(.rows (v9) [.n, .r3, .is, .is, .is] (v10))])] =
 (go k impl_StateOk [(.agg [(.int .i64 (v0)), (.arr false (v1) (.r3 (v2))), (.arr false (v3) (.ints .i64 (v4))), (.arr false (v5) (.ints .i64 (v6))), (.arr false (v7) (.ints .i64 (v8)))])]).bind fun r0 =>
 cond (!bit (nth r0 0))
 (some [(.bool (true))])
 (cond (decide ((0 : Int) ≤ (0 : Int)) && decide ((0 : Int) < nI (List.length v10)))
 ((go k impl_SameMesh [(.agg [(.int .i64 (v0)), (.arr false (v1) (.r3 (v2)))]), (.agg [(.int .i64 (RC.num (rcAt (rrow v10 (Int.toNat (0 : Int))) 0))), (.arr false (RC.nil (rcAt (rrow v10 (Int.toNat (0 : Int))) 1)) (.r3 (RC.r3s (rcAt (rrow v10 (Int.toNat (0 : Int))) 1))))])]).bind fun r1 =>
 some [(.bool (!bit (nth r1 0)))])
 (none)) := by kernel_rfl
theorem qer (k : Nat) (v0 : Bool) (v1 : List (List RC)) (v2 : Bool) (v3 : List (List RC)) : go (k + 1) slices_ContainsFunc_impl_State_impl_State [(.rows (v0) [.n, .r3, .is, .is, .is] (v1)), (.fn impl_EnvelopeOf_1 [(.ptr false [(.rows (v2) [.n, .r3, .is, .is, .is] (v3))])])] =
 (go k slices_IndexFunc_impl_State_impl_State [(.rows (v0) [.n, .r3, .is, .is, .is] (v1)), (.fn impl_EnvelopeOf_1 [(.ptr false [(.rows (v2) [.n, .r3, .is, .is, .is] (v3))])])]).bind fun r0 =>
 some [(.bool (decide ((0 : Int) ≤ D.toInt (nth r0 0))))] := by kernel_rfl
def qkr (x0 x1 : Int) (z2 : Bool) (l3 : List (List RC)) (z4 : Bool) (l5 : List (List RC)) : St := ⟨fill 19 [(0, (.sl 0 none)), (1, (.fn impl_EnvelopeOf_1 [(.ptr 2 (0) (0))])), (7, (.int .i64 (x0))), (8, (.int .i64 (x1)))], [], [(.rows false (z2) [.n, .r3, .is, .is, .is] (l3)), (.rows false (z4) [.n, .r3, .is, .is, .is] (l5)), (.box false [(.sl 1 none)])]⟩
theorem qeu (k : Nat) (v0 : Bool) (v1 : List (List RC)) (v2 : Bool) (v3 : List (List RC)) : go (k + 1) slices_IndexFunc_impl_State_impl_State [(.rows (v0) [.n, .r3, .is, .is, .is] (v1)), (.fn impl_EnvelopeOf_1 [(.ptr false [(.rows (v2) [.n, .r3, .is, .is, .is] (v3))])])] =
 lp k slices_IndexFunc_impl_State_impl_State [] [] 2 k (qkr (nI (List.length v1)) (0 : Int) v0 v1 v2 v3) := by kernel_rfl
theorem qg7 (k n : Nat) (fu : List (Nat × Nat)) (x0 x1 : Int) (z2 : Bool) (l3 : List (List RC)) (z4 : Bool) (l5 : List (List RC)) : lp k slices_IndexFunc_impl_State_impl_State [] fu 2 (n + 1) (qkr x0 x1 z2 l3 z4 l5) =
 cond (decide (x1 < x0))
 (cond (decide ((0 : Int) ≤ x1) && decide (x1 < nI (List.length l3)))
 ((go k impl_EnvelopeOf_1 [(.agg [(.int .i64 (RC.num (rcAt (rrow l3 (Int.toNat x1)) 0))), (.arr false (RC.nil (rcAt (rrow l3 (Int.toNat x1)) 1)) (.r3 (RC.r3s (rcAt (rrow l3 (Int.toNat x1)) 1)))), (.arr false (RC.nil (rcAt (rrow l3 (Int.toNat x1)) 2)) (.ints .i64 (RC.ints (rcAt (rrow l3 (Int.toNat x1)) 2)))), (.arr false (RC.nil (rcAt (rrow l3 (Int.toNat x1)) 3)) (.ints .i64 (RC.ints (rcAt (rrow l3 (Int.toNat x1)) 3)))), (.arr false (RC.nil (rcAt (rrow l3 (Int.toNat x1)) 4)) (.ints .i64 (RC.ints (rcAt (rrow l3 (Int.toNat x1)) 4))))]), (.ptr false [(.rows (z4) [.n, .r3, .is, .is, .is] (l5))])]).bind fun r0 =>
 cond (bit (nth r0 0))
 (some [(.int .i64 (x1))])
 (lp k slices_IndexFunc_impl_State_impl_State [] fu 2 n (qkr x0 (IntKind.wrap .i64 (x1 + (1 : Int))) z2 l3 z4 l5)))
 (none))
 (some [(.int .i64 ((-1 : Int)))]) := by kernel_rfl
end Go.Proofs.Ytcaapedadpnjoaa
end
section
namespace Go.Proofs.Ytcaapedadpnjoaa
open Go.Ev
set_option maxRecDepth 20000
def rowS (r : Int) (c : List Cell) (m t b : List Int) : List RC := [.n r, .r3 false c, .is false m, .is false t, .is false b]
theorem rcS0 (r : Int) (c : List Cell) (m t b : List Int) : rcAt (rowS r c m t b) 0 = .n r := Eq.trans rfl rfl
theorem rcS1 (r : Int) (c : List Cell) (m t b : List Int) : rcAt (rowS r c m t b) 1 = .r3 false c := Eq.trans rfl rfl
theorem rcS2 (r : Int) (c : List Cell) (m t b : List Int) : rcAt (rowS r c m t b) 2 = .is false m := Eq.trans rfl rfl
theorem rcS3 (r : Int) (c : List Cell) (m t b : List Int) : rcAt (rowS r c m t b) 3 = .is false t := Eq.trans rfl rfl
theorem rcS4 (r : Int) (c : List Cell) (m t b : List Int) : rcAt (rowS r c m t b) 4 = .is false b := Eq.trans rfl rfl
theorem qjw (x : Int) : RC.num (.n x) = x := Eq.trans rfl rfl
theorem qjv (z : Bool) (l : List Int) : RC.nil (.is z l) = z := Eq.trans rfl rfl
theorem qju (z : Bool) (l : List Cell) : RC.nil (.r3 z l) = z := Eq.trans rfl rfl
theorem qjt (z : Bool) (l : List Int) : RC.ints (.is z l) = l := Eq.trans rfl rfl
theorem qjx (z : Bool) (l : List Cell) : RC.r3s (.r3 z l) = l := Eq.trans rfl rfl
def qj3 (r : Int) (c : List Cell) (t b : List Int) (L : List (List Int)) : List (List RC) := L.map fun m => rowS r c m t b
theorem qj5 (r : Int) (c : List Cell) (t b : List Int) (L : List (List Int)) : (qj3 r c t b L).length = L.length := List.length_map ..
theorem qj9 {r : Int} {c : List Cell} {t b : List Int} {L : List (List Int)} {i : Nat} (h : i < L.length) : rrow (qj3 r c t b L) i = rowS r c (L.getD i []) t b := by
  unfold rrow qj3
  simp [List.getD_eq_getElem?_getD, h]
theorem qj4 (r : Int) (c : List Cell) (t b : List Int) (L : List (List Int)) (m : List Int) : qj3 r c t b L ++ [rowS r c m t b] = qj3 r c t b (L ++ [m]) := by simp [qj3]
structure Ens (r : Int) (c : List Cell) (t b : List Int) (L : List (List Int)) : Prop where
  ne : 0 < L.length
  le : L.length ≤ 100
  ok : ∀ m ∈ L, StF r c m t b
theorem Ens.at {r : Int} {c : List Cell} {t b : List Int} {L : List (List Int)} (E : Ens r c t b L) {i : Nat} (h : i < L.length) : StF r c (L.getD i []) t b := E.ok _ (qf9 h [])
theorem qla (r : Int) (l : List Cell) : qk9 r r l l = true := by unfold qk9; simp
theorem qa0 (k : Nat) (hk : 2000000 ≤ k) (r : Int) (c : List Cell) (m t b : List Int) (F : StF r c m t b) (z : Bool) (L : List (List Int)) (hL : 0 < L.length) : go (k + 9) impl_EnvelopeOf_1 [.agg [.int .i64 (r), .arr false (false) (.r3 (c)), .arr false (false) (.ints .i64 (m)), .arr false (false) (.ints .i64 (t)), .arr false (false) (.ints .i64 (b))], .ptr false [.rows z [.n, .r3, .is, .is, .is] (qj3 r c t b L)]] = some [.bool false] := by
  rw [qds]
  have g := stF.2 F
  have := F.len; have := F.bl; have := F.rr
  have ln := qj5 r c t b L
  have r0 := qj9 (r := r) (c := c) (t := t) (b := b) hL
  rw [show (0 : Nat) = Int.toNat 0 from rfl] at r0
  simp (disch := omega) only [qbd, g, bit, dT, nI, ln, Bool.and_true, r0, rcS0, qjw, rcS1, qju, qjx, qba, qla, qax, nth0, ql8, Bool.not_true, qdj, qdh]
theorem qhw (k : Nat) (hk : 2000000 ≤ k) (fu : List (Nat × Nat)) (r : Int) (c : List Cell) (t b : List Int) (L : List (List Int)) (E : Ens r c t b L) (z z' : Bool) : ∀ (N i : Nat), i ≤ L.length → L.length - i < N →
    lp (k + 9) slices_IndexFunc_impl_State_impl_State [] fu 2 (N) (qkr (L.length : Int) (i : Int) z (qj3 r c t b L) z' (qj3 r c t b L)) = some [.int .i64 (-1)]
  | 0, i, hi, hN => by omega
  | N + 1, i, hi, hN => by
    rw [qg7]
    have ln := qj5 r c t b L
    have := E.le
    by_cases g : i < L.length
    · have IH := qhw k hk fu r c t b L E z z' N (i + 1) (by omega) (by omega)
      have e := qa0 k (by omega) r c (L.getD i []) t b (E.at g) z' L E.ne
      have ra := qj9 (r := r) (c := c) (t := t) (b := b) g
      simp (disch := omega) only [dT, nI, ln, Bool.and_true, Int.toNat_natCast, ra, rcS0, qjw, rcS1, qju, qjx, rcS2, qjv, qjt, rcS3, rcS4, e, bit, qc6, qmn, IH, qax, nth0, ql8, qdh, qdj]
    · simp (disch := omega) only [dF, dT, nI, Bool.and_false, Int.toNat_natCast, bit, qc6, qmn, qdh]
theorem qa1 (k : Nat) (hk : 2000000 ≤ k) (r : Int) (c : List Cell) (t b : List Int) (L : List (List Int)) (E : Ens r c t b L) (z z' : Bool) : go (k + 11) slices_ContainsFunc_impl_State_impl_State [.rows z [.n, .r3, .is, .is, .is] (qj3 r c t b L), .fn impl_EnvelopeOf_1 [.ptr false [.rows z' [.n, .r3, .is, .is, .is] (qj3 r c t b L)]]] = some [.bool false] := by
  have e := qhw k (by omega) [] r c t b L E z z' (k + 9) 0 (by omega) (by have := E.le; omega)
  have ln := qj5 r c t b L
  rw [show ((0 : Nat) : Int) = 0 from rfl] at e
  rw [qer]
  simp (disch := omega) only [qeu, nI, ln, e, qax, nth0, ql9, dF]
structure Env (n : Nat) (L : List (List Int)) (i : Nat) (lo hi : List Int) : Prop where
  l1 : lo.length = n
  l2 : hi.length = n
  btw : ∀ q, q < n → ∀ j, j < i → lo.getD q 0 ≤ (L.getD j []).getD q 0 ∧ (L.getD j []).getD q 0 ≤ hi.getD q 0
  hit : ∀ q, q < n → ∃ j, j < L.length ∧ (L.getD j []).getD q 0 = lo.getD q 0
  top : ∀ q, q < n → ∃ j, j < L.length ∧ (L.getD j []).getD q 0 = hi.getD q 0
theorem qhv (k : Nat) (hk : 2000000 ≤ k) (fu : List (Nat × Nat)) (r : Int) (c : List Cell) (t b : List Int) (L : List (List Int)) (E : Ens r c t b L) (z : Bool) (i : Nat) (hi : i < L.length) (zm zl zh : Bool) : ∀ (N j : Nat) (lo up : List Int), j ≤ c.length → c.length - j < N → lo.length = c.length → up.length = c.length →
    ∃ lo' up' : List Int, lp (k + 11) impl_EnvelopeOf [] fu 8 (N) (qkc (L.length : Int) (i : Int) (c.length : Int) (j : Int) zl lo zh up z (qj3 r c t b L) zm (L.getD i [])) = lp (k + 11) impl_EnvelopeOf [] fu 5 (fuelOf fu 5) (qkb (L.length : Int) ((i + 1 : Nat) : Int) zl lo' zh up' z (qj3 r c t b L)) ∧ lo'.length = c.length ∧ up'.length = c.length ∧
      ∀ q, q < c.length → (q < j → lo'.getD q 0 = lo.getD q 0 ∧ up'.getD q 0 = up.getD q 0) ∧ (j ≤ q → lo'.getD q 0 = min ((L.getD i []).getD q 0) (lo.getD q 0) ∧ up'.getD q 0 = max ((L.getD i []).getD q 0) (up.getD q 0))
  | 0, j, lo, up, hj, hN, l1, l2 => by omega
  | N + 1, j, lo, up, hj, hN, l1, l2 => by
    have e := qgs (k + 11) N fu (L.length : Int) (i : Int) (c.length : Int) (j : Int) zl lo zh up z (qj3 r c t b L) zm (L.getD i [])
    have F := E.at hi
    have ml := F.ml; have cl := F.len; have ll := E.le
    by_cases g : j < c.length
    · obtain ⟨lo', up', e2, a1, a2, a3⟩ := qhv k hk fu r c t b L E z i hi zm zl zh N (j + 1) (lo.set j (min ((L.getD i []).getD j 0) (lo.getD j 0))) (up.set j (max ((L.getD i []).getD j 0) (up.getD j 0))) (by omega) (by omega) (by rw [List.length_set]; exact l1) (by rw [List.length_set]; exact l2)
      simp (disch := omega) only [dT, nI, Bool.and_true, qc6, qmn, Int.toNat_natCast, imin, imax, e2, qdj] at e
      refine ⟨lo', up', e, a1, a2, fun q hq => ⟨fun h => ?_, fun h => ?_⟩⟩
      · have := (a3 q hq).1 (by omega)
        rw [qlb, qlb, if_neg (by omega), if_neg (by omega)] at this
        exact this
      · by_cases h' : q = j
        · subst h'
          have := (a3 q hq).1 (by omega)
          rw [qlb, qlb, if_pos (by omega), if_pos (by omega)] at this
          exact this
        · have := (a3 q hq).2 (by omega)
          rw [qlb, qlb, if_neg (by omega), if_neg (by omega)] at this
          exact this
    · simp (disch := omega) only [dF, dT, nI, Bool.and_false, qc6, qmn, Int.toNat_natCast, imin, imax, qdh] at e
      exact ⟨lo, up, e, l1, l2, fun q hq => ⟨fun _ => ⟨rfl, rfl⟩, fun h => by omega⟩⟩
theorem qhu (k : Nat) (hk : 2000000 ≤ k) (r : Int) (c : List Cell) (t b : List Int) (L : List (List Int)) (E : Ens r c t b L) (z zl zh : Bool) : ∀ (N : Nat) (fu : List (Nat × Nat)) (i : Nat) (lo up : List Int), i ≤ L.length → L.length - i < N → Env c.length L i lo up →
    ∃ lo' up' : List Int, lp (k + 11) impl_EnvelopeOf [] fu 5 (N) (qkb (L.length : Int) (i : Int) zl lo zh up z (qj3 r c t b L)) = some [.arr true zl (.ints .i64 lo'), .arr true zh (.ints .i64 up'), .bool true] ∧ Env c.length L L.length lo' up'
  | 0, fu, i, lo, up, hi, hN, V => by omega
  | N + 1, fu, i, lo, up, hi, hN, V => by
    have e := qgr (k + 11) N fu (L.length : Int) (i : Int) zl lo zh up z (qj3 r c t b L)
    have ln := qj5 r c t b L
    have ll := E.le
    by_cases g : i < L.length
    · have F := E.at g
      have ml := F.ml; have cl := F.len
      have ra := qj9 (r := r) (c := c) (t := t) (b := b) g
      obtain ⟨lo1, up1, e1, a1, a2, a3⟩ := qhv k hk ((5, N) :: fu) r c t b L E z i g false zl zh (k + 11) 0 lo up (by omega) (by omega) V.l1 V.l2
      rw [qf7, show ((0 : Nat) : Int) = 0 from rfl] at e1
      have V1 : Env c.length L (i + 1) lo1 up1 := by
        refine ⟨a1, a2, fun q hq j hj => ?_, fun q hq => ?_, fun q hq => ?_⟩
        · have h := (a3 q hq).2 (Nat.zero_le _)
          by_cases h' : j = i
          · subst h'; omega
          · have := V.btw q hq j (by omega); omega
        · have h := (a3 q hq).2 (Nat.zero_le _)
          by_cases h' : (L.getD i []).getD q 0 ≤ lo.getD q 0
          · exact ⟨i, g, by omega⟩
          · obtain ⟨j, h1, h2⟩ := V.hit q hq
            exact ⟨j, h1, by omega⟩
        · have h := (a3 q hq).2 (Nat.zero_le _)
          by_cases h' : up.getD q 0 ≤ (L.getD i []).getD q 0
          · exact ⟨i, g, by omega⟩
          · obtain ⟨j, h1, h2⟩ := V.top q hq
            exact ⟨j, h1, by omega⟩
      obtain ⟨lo2, up2, e2, b2⟩ := qhu k hk r c t b L E z zl zh N ((5, N) :: fu) (i + 1) lo1 up1 (by omega) (by omega) V1
      simp (disch := omega) only [dT, nI, ln, Bool.and_true, Int.toNat_natCast, ra, rcS2, qjt, ml, qjv, e1, e2, qdj] at e
      exact ⟨lo2, up2, e, b2⟩
    · have : i = L.length := by omega
      subst this
      simp (disch := omega) only [dF, dT, nI, Bool.and_false, Int.toNat_natCast, qdh] at e
      exact ⟨lo, up, e, V⟩
theorem qa4 (k : Nat) (hk : 2000000 ≤ k) (r : Int) (c : List Cell) (t b : List Int) (L : List (List Int)) (E : Ens r c t b L) (z : Bool) :
    ∃ lo up : List Int, go (k + 12) impl_EnvelopeOf [.rows z [.n, .r3, .is, .is, .is] (qj3 r c t b L)] = some [.arr true false (.ints .i64 lo), .arr true false (.ints .i64 up), .bool true] ∧ Env c.length L L.length lo up := by
  have e := qdr (k + 11) z (qj3 r c t b L)
  have ln := qj5 r c t b L
  have ll := E.le; have ne := E.ne
  have F := E.at E.ne
  have ml := F.ml; have cl := F.len
  have r0 : rrow (qj3 r c t b L) (Int.toNat 0) = rowS r c (L.getD 0 []) t b := qj9 E.ne
  have eA := qa1 k (by omega) r c t b L E z z
  obtain ⟨lo, up, e5, V⟩ := qhu k hk r c t b L E z false false (k + 11) [] 0 (L.getD 0 []) (L.getD 0 []) (by omega) (by omega)
    ⟨ml, ml, fun q hq j hj => by omega, fun q hq => ⟨0, ne, rfl⟩, fun q hq => ⟨0, ne, rfl⟩⟩
  have gl : inR (L.length : Int) 1 100 = true := qgh.2 (by omega)
  rw [show ((0 : Nat) : Int) = 0 from rfl] at e5
  simp (disch := omega) only [nI, ln, qbx, gl, bit, eA, dT, Bool.and_true, r0, rcS2, qjv, qjt, qb2, qax, nth0, qja, qgi, qdj, e5, ql8, qdh, Bool.not_true] at e
  exact ⟨lo, up, e, V⟩
end Go.Proofs.Ytcaapedadpnjoaa
end
section
namespace Go.Proofs.Ytcaapedadpnjoaa
open Go.Ev
set_option maxRecDepth 20000
theorem qby (k : Nat) (hk : 2000000 ≤ k) (z : Bool) (l : List Int) : go (k + 1) laws_big [.arr false z (.ints .u8 l)] = some [.bool (decide (1048576 < (l.length : Int)))] := by
  rw [qeo]
structure More (m m' : List Int) (j : Nat) : Prop where
  len : m'.length = m.length
  lo : ∀ q, q < m.length → m.getD q 0 ≤ m'.getD q 0 ∧ m'.getD q 0 ≤ m.getD q 0 + 49
theorem More.refl (m : List Int) : More m m 0 := ⟨rfl, fun q hq => by omega⟩
theorem qiu : ∀ (m m' t : List Int), m'.length = m.length → t.length = m.length → (∀ q, q < m.length → m.getD q 0 ≤ m'.getD q 0 ∧ m'.getD q 0 ≤ m.getD q 0 + 49) → (∀ x ∈ m, x ≤ 9999900) → qir m t = true → qir m' t = true
  | [], [], t, _, _, _, _, h => h
  | [], _ :: _, t, h, _, _, _, _ => by simp at h
  | x :: m, [], t, h, _, _, _, _ => by simp at h
  | x :: m, y :: m', [], _, h, _, _, _ => by simp at h
  | x :: m, y :: m', u :: t, h1, h2, h3, h4, h => by
    have h0 := h3 0 (by simp)
    simp only [List.getD_cons_zero] at h0
    have hx := h4 x (by simp)
    simp only [qir, Bool.and_eq_true, qgh] at h ⊢
    refine ⟨by omega, by omega, qiu m m' t (by simpa using h1) (by simpa using h2) (fun q hq => ?_) (fun z hz => h4 z (by simp [hz])) h.2.2⟩
    have := h3 (q + 1) (by simpa using hq)
    simpa using this
theorem qgn : ∀ (m m' : List Int), m'.length = m.length → (∀ q, q < m.length → m'.getD q 0 ≤ m.getD q 0 + 49) → isum m' ≤ isum m + 49 * m.length
  | [], [], _, _ => by simp [isum]
  | [], _ :: _, h, _ => by simp at h
  | x :: m, [], h, _ => by simp at h
  | x :: m, y :: m', h1, h2 => by
    have a := qgn m m' (by simpa using h1) (fun q hq => by have := h2 (q + 1) (by simpa using hq); simpa using this)
    have b := h2 0 (by simp)
    simp only [List.getD_cons_zero] at b
    simp only [isum, List.length_cons]
    omega
theorem qgo {m : List Int} (h : ∀ x ∈ m, 0 ≤ x) : 0 ≤ isum m := by
  induction m with
  | nil => exact Int.le_refl _
  | cons x m ih =>
    have := ih fun y hy => h y (by simp [hy])
    have := h x (by simp)
    simp only [isum]; omega
theorem qfy : ∀ (m : List Int), (∀ x ∈ m, 0 ≤ x) → ∀ x ∈ m, x ≤ isum m
  | [], _, x, h => by cases h
  | y :: m, h, x, hx => by
    have nn := qgo (m := m) fun z hz => h z (by simp [hz])
    have ny := h y (by simp)
    simp only [isum]
    rcases List.mem_cons.1 hx with rfl | hx
    · omega
    · have := qfy m (fun z hz => h z (by simp [hz])) x hx
      omega
theorem qi5 {r : Int} {c : List Cell} {m m' t b : List Int} {j : Nat} (F : StF r c m t b) (M : More m m' j) (hs : isum m ≤ 2560000) : StF r c m' t b := by
  have ml := F.ml; have tl := F.tl; have cl := F.len
  have mm := (qit m t (by omega) F.mt).1
  have le := qfy m fun x hx => (mm x hx).1
  have s := qgn m m' M.len fun q hq => (M.lo q hq).2
  exact ⟨F.mesh, F.bal, by rw [M.len]; exact ml, tl, F.bl, qiu m m' t M.len (by omega) M.lo (fun x hx => by have := le x hx; omega) F.mt, F.bed, by omega⟩
end Go.Proofs.Ytcaapedadpnjoaa
end
section
namespace Go.Proofs.Ytcaapedadpnjoaa
open Go.Ev
def qkl (x0 : Int) (x1 x2 z3 : Bool) (l4 : List Int) (x5 x6 : Int) (z7 : Bool) (l8 : List (Int × Int × Int)) (z9 : Bool) (l10 : List Int) (z11 : Bool) (l12 : List Int) (z13 : Bool) (l14 : List Int) (x15 : Int) (z16 : Bool) (l17 : List (List RC)) : St := ⟨fill 48 [(3, (.ptr 1 (0) (0))), (4, (.ptr 6 (0) (0))), (5, (.sl 7 none)), (6, (.int .i64 (x0)))], [(.sl 0 none), .un, (.bool (x1)), .un, .un, .un, .un, .un, (.sl 0 none), (.bool (x2)), (.sl 0 none), .un, .un, .un, .un, .un, .un, .un, .un, .un, .un, .un, .un, .un, .un, .un, .un, .un, .un, .un, .un, .un, .un, .un, .un, .un, .un, .un, .un, .un, .un, .un, .un, .un, .un, .un, .un, .un, .un, .un, .un, .un, .un], [(.arr false (z3) (.ints IntKind.u8 (l4))), (.box true [(.sl 0 none), (.int .i64 (x5)), (.int .i64 (x6))]), (.arr false (z7) (.r3 (l8))), (.arr false (z9) (.ints .i64 (l10))), (.arr false (z11) (.ints .i64 (l12))), (.arr false (z13) (.ints .i64 (l14))), (.box true [(.int .i64 (x15)), (.sl 2 none), (.sl 3 none), (.sl 4 none), (.sl 5 none)]), (.rows true (z16) [.n, .r3, .is, .is, .is] (l17))]⟩
def qkm (x0 x1 : Int) (x2 x3 z4 : Bool) (l5 : List Int) (x6 x7 : Int) (z8 : Bool) (l9 : List (Int × Int × Int)) (z10 : Bool) (l11 : List Int) (z12 : Bool) (l13 : List Int) (z14 : Bool) (l15 : List Int) (x16 : Int) (z17 : Bool) (l18 : List (List RC)) (z19 : Bool) (l20 : List (Int × Int × Int)) (z21 : Bool) (l22 : List Int) (z23 : Bool) (l24 : List Int) (z25 : Bool) (l26 : List Int) (x27 : Int) : St := ⟨fill 48 [(3, (.ptr 1 (0) (0))), (4, (.ptr 6 (0) (0))), (5, (.sl 7 none)), (6, (.int .i64 (x0))), (7, (.ptr 12 (0) (0))), (8, (.int .i64 (x1)))], [(.sl 0 none), .un, (.bool (x2)), .un, .un, .un, .un, .un, (.sl 0 none), (.bool (x3)), (.sl 0 none), .un, .un, .un, .un, .un, .un, .un, .un, .un, .un, .un, .un, .un, .un, .un, .un, .un, .un, .un, .un, .un, .un, .un, .un, .un, .un, .un, .un, .un, .un, .un, .un, .un, .un, .un, .un, .un, .un, .un, .un, .un, .un], [(.arr false (z4) (.ints IntKind.u8 (l5))), (.box true [(.sl 0 none), (.int .i64 (x6)), (.int .i64 (x7))]), (.arr false (z8) (.r3 (l9))), (.arr false (z10) (.ints .i64 (l11))), (.arr false (z12) (.ints .i64 (l13))), (.arr false (z14) (.ints .i64 (l15))), (.box true [(.int .i64 (x16)), (.sl 2 none), (.sl 3 none), (.sl 4 none), (.sl 5 none)]), (.rows true (z17) [.n, .r3, .is, .is, .is] (l18)), (.arr true (z19) (.r3 (l20))), (.arr true (z21) (.ints .i64 (l22))), (.arr true (z23) (.ints .i64 (l24))), (.arr true (z25) (.ints .i64 (l26))), (.box true [(.int .i64 (x27)), (.sl 8 none), (.sl 9 none), (.sl 10 none), (.sl 11 none)])]⟩
def qkn (x0 x1 x2 : Int) (x3 x4 : Bool) (x5 x6 : Int) (z7 : Bool) (l8 : List (List RC)) (z9 : Bool) (l10 : List (List RC)) (z11 : Bool) (l12 : List Int) (z13 : Bool) (l14 : List Int) : St := ⟨fill 39 [(1, (.int .i64 (x0))), (9, (.sl 0 none)), (25, (.sl 1 none)), (26, (.int .i64 (x1))), (27, (.int .i64 (x2)))], [(.sl 2 none), .un, (.bool (x3)), (.sl 1 none), (.sl 3 none), .un, .un, .un, (.sl 2 none), (.bool (x4)), (.sl 2 none), (.sl 1 none), (.sl 2 none), (.sl 3 none), .un, (.sl 1 none), (.sl 3 none), (.ptr 3 (Int.toNat (0 : Int)) (0)), (.int .i64 (x5)), (.int .i64 (x6)), .un, .un, .un, .un, .un, .un, .un, .un, .un, .un, .un, .un, .un, .un, .un, .un, .un, .un, .un, .un, .un, .un, .un, .un, .un, .un, .un, .un, .un, .un, .un, .un, .un], [(.rows true (z7) [.n, .r3, .is, .is, .is] (l8)), (.rows true (z9) [.n, .r3, .is, .is, .is] (l10)), (.arr false (z11) (.ints IntKind.u8 (l12))), (.arr true (z13) (.ints .i64 (l14)))]⟩
def qko (x0 x1 : Int) (x2 x3 z4 : Bool) (l5 : List Int) (z6 : Bool) (l7 : List (List RC)) : St := ⟨fill 32 [(0, (.sl 0 none)), (3, (.int .i64 (x0))), (4, (.int .i64 (x1)))], [(.sl 0 none), .un, (.sl 1 none), .un, .un, .un, .un, .un, .un, (.sl 0 none), .un, .un, .un, .un, .un, .un, .un, .un, .un, .un, .un, .un, .un, .un, .un, .un, .un, .un, .un, .un, .un, .un, .un, .un, .un, .un, .un, .un, .un, .un, .un, .un, .un, .un, .un, .un, .un, .un, (.sl 0 none), .un, (.bool (x2)), .un, .un, .un, .un, .un, (.sl 0 none), (.bool (x3)), (.sl 0 none), .un, .un, .un, .un, .un, .un, .un, .un, .un, .un, .un, .un, .un, .un, .un, .un, .un, .un, .un, .un, .un, .un, .un, .un, .un, .un, .un, .un, .un, .un, .un, .un, .un, .un, .un, .un, .un, .un, .un, .un, .un, .un], [(.arr false (z4) (.ints IntKind.u8 (l5))), (.rows true (z6) [.n, .r3, .is, .is, .is] (l7))]⟩
def qkp (x0 : Int) (z1 : Bool) (l2 : List (List RC)) (z3 : Bool) (l4 : List Int) (z5 : Bool) (l6 : List (List RC)) : St := ⟨fill 53 [(3, (.sl 0 none)), (4, (.sl 1 none)), (5, (.sl 2 none)), (7, (.int .i64 (x0)))], [], [(.rows true (z1) [.n, .r3, .is, .is, .is] (l2)), (.arr true (z3) (.ints .i64 (l4))), (.rows true (z5) [.n, .r3, .is, .is, .is] (l6))]⟩
theorem qen (k : Nat) (az : Bool) (a : List Int) : go (k + 1) laws_FnStepAll [(.arr false (az) (.ints IntKind.u8 (a)))] =
 (go k laws_big [(.arr false (az) (.ints IntKind.u8 (a)))]).bind fun r0 =>
 cond (bit (nth r0 0))
 (some [(.bool (true))])
 (lp k laws_FnStepAll [] [] 4200003 k (qko (IntKind.wrap .i64 ((98231 : Int) + nI (List.length a))) (0 : Int) false (bit (nth r0 0)) az a true ([]))) := by kernel_rfl
theorem qg1 (k n : Nat) (fu : List (Nat × Nat)) (x0 : Int) (x1 x2 z3 : Bool) (l4 : List Int) (x5 x6 : Int) (z7 : Bool) (l8 : List (Int × Int × Int)) (z9 : Bool) (l10 : List Int) (z11 : Bool) (l12 : List Int) (z13 : Bool) (l14 : List Int) (x15 : Int) (z16 : Bool) (l17 : List (List RC)) : lp k laws_FnStepAll [] fu 1000005 (n + 1) (qkl x0 x1 x2 z3 l4 x5 x6 z7 l8 z9 l10 z11 l12 z13 l14 x15 z16 l17) =
 (go k spec_l01Below [(.ptr true [(.arr false (z3) (.ints IntKind.u8 (l4))), (.int .i64 (x5)), (.int .i64 (x6))]), (.int .i64 ((3 : Int)))]).bind fun r0 =>
 cond (decide (x0 < IntKind.wrap .i64 ((1 : Int) + D.toInt (nth r0 0))))
 ((go k spec_l07Copy [(.agg [(.int .i64 (x15)), (.arr false (z7) (.r3 (l8))), (.arr false (z9) (.ints .i64 (l10))), (.arr false (z11) (.ints .i64 (l12))), (.arr false (z13) (.ints .i64 (l14)))])]).bind fun r1 =>
 lp k laws_FnStepAll [] ((5, n) :: fu) 1000009 k (qkm x0 (0 : Int) x1 x2 z3 l4 (D.toInt (D.cell 1 (nth r0 1))) (D.toInt (D.cell 2 (nth r0 1))) z7 l8 z9 l10 z11 l12 z13 l14 x15 z16 l17 (D.nil (D.cell 1 (nth r1 0))) (D.r3 (D.cell 1 (nth r1 0))) (D.nil (D.cell 2 (nth r1 0))) (D.ints (D.cell 2 (nth r1 0))) (D.nil (D.cell 3 (nth r1 0))) (D.ints (D.cell 3 (nth r1 0))) (D.nil (D.cell 4 (nth r1 0))) (D.ints (D.cell 4 (nth r1 0))) (D.toInt (D.cell 0 (nth r1 0)))))
 ((go k spec_DrawPlaces [(.arr false (z3) (.ints IntKind.u8 (l4)))]).bind fun r2 =>
 cond (decide ((0 : Int) ≤ (0 : Int)) && decide ((0 : Int) < nI (List.length (D.ints (nth r2 0)))))
 ((go k impl_EnvelopeOf [(.rows (z16) [.n, .r3, .is, .is, .is] (l17))]).bind fun r3 =>
 cond (!bit (nth r3 2))
 (some [(.bool (false))])
 (cond (decide (Int.tmod (List.getD (D.ints (nth r2 0)) (Int.toNat (0 : Int)) (0 : Int)) (32 : Int) < (0 : Int)))
 (some [(.bool (false))])
 (lp k laws_FnStepAll [] fu 3100006 k (qkn (Int.tmod (List.getD (D.ints (nth r2 0)) (Int.toNat (0 : Int)) (0 : Int)) (32 : Int)) (nI (List.length l17)) (0 : Int) x1 x2 (List.getD (D.ints (nth r2 0)) (Int.toNat (0 : Int)) (0 : Int)) (Int.tmod (List.getD (D.ints (nth r2 0)) (Int.toNat (0 : Int)) (0 : Int)) (32 : Int)) false ([]) z16 l17 z3 l4 (D.nil (nth r2 0)) (D.ints (nth r2 0))))))
 (none)) := by kernel_rfl
theorem qg2 (k n : Nat) (fu : List (Nat × Nat)) (x0 x1 : Int) (x2 x3 z4 : Bool) (l5 : List Int) (x6 x7 : Int) (z8 : Bool) (l9 : List (Int × Int × Int)) (z10 : Bool) (l11 : List Int) (z12 : Bool) (l13 : List Int) (z14 : Bool) (l15 : List Int) (x16 : Int) (z17 : Bool) (l18 : List (List RC)) (z19 : Bool) (l20 : List (Int × Int × Int)) (z21 : Bool) (l22 : List Int) (z23 : Bool) (l24 : List Int) (z25 : Bool) (l26 : List Int) (x27 : Int) : lp k laws_FnStepAll [] fu 1000009 (n + 1) (qkm x0 x1 x2 x3 z4 l5 x6 x7 z8 l9 z10 l11 z12 l13 z14 l15 x16 z17 l18 z19 l20 z21 l22 z23 l24 z25 l26 x27) =
 cond (decide (x1 < nI (List.length l22)))
 (cond (decide ((0 : Int) ≤ x1) && decide (x1 < nI (List.length l22)))
 ((go k spec_l01Below [(.ptr true [(.arr false (z4) (.ints IntKind.u8 (l5))), (.int .i64 (x6)), (.int .i64 (x7))]), (.int .i64 ((50 : Int)))]).bind fun r0 =>
 cond (decide ((0 : Int) ≤ x1) && decide (x1 < nI (List.length l22)))
 (lp k laws_FnStepAll [] fu 1000009 n (qkm x0 (IntKind.wrap .i64 (x1 + (1 : Int))) x2 x3 z4 l5 (D.toInt (D.cell 1 (nth r0 1))) (D.toInt (D.cell 2 (nth r0 1))) z8 l9 z10 l11 z12 l13 z14 l15 x16 z17 l18 z19 l20 z21 (List.set l22 (Int.toNat x1) (IntKind.wrap .i64 (List.getD l22 (Int.toNat x1) (0 : Int) + D.toInt (nth r0 0)))) z23 l24 z25 l26 x27))
 (none))
 (none))
 (cond (decide (List.length l18 + List.length [[RC.n x27, RC.r3 z19 l20, RC.is z21 l22, RC.is z23 l24, RC.is z25 l26]] ≤ rowMax))
 (lp k laws_FnStepAll [] fu 1000005 (fuelOf fu 5) (qkl (IntKind.wrap .i64 (x0 + (1 : Int))) x2 x3 z4 l5 x6 x7 z8 l9 z10 l11 z12 l13 z14 l15 x16 (z17 && decide (List.length (l18 ++ [[RC.n x27, RC.r3 z19 l20, RC.is z21 l22, RC.is z23 l24, RC.is z25 l26]]) = 0)) (l18 ++ [[RC.n x27, RC.r3 z19 l20, RC.is z21 l22, RC.is z23 l24, RC.is z25 l26]])))
 (none)) := by kernel_rfl
theorem qg3 (k n : Nat) (fu : List (Nat × Nat)) (x0 x1 x2 : Int) (x3 x4 : Bool) (x5 x6 : Int) (z7 : Bool) (l8 : List (List RC)) (z9 : Bool) (l10 : List (List RC)) (z11 : Bool) (l12 : List Int) (z13 : Bool) (l14 : List Int) : lp k laws_FnStepAll [] fu 3100006 (n + 1) (qkn x0 x1 x2 x3 x4 x5 x6 z7 l8 z9 l10 z11 l12 z13 l14) =
 cond (decide (x2 < x1))
 (cond (decide ((0 : Int) ≤ x2) && decide (x2 < nI (List.length l10)))
 ((go k impl_StepState [(.agg [(.int .i64 (RC.num (rcAt (rrow l10 (Int.toNat x2)) 0))), (.arr false (RC.nil (rcAt (rrow l10 (Int.toNat x2)) 1)) (.r3 (RC.r3s (rcAt (rrow l10 (Int.toNat x2)) 1)))), (.arr false (RC.nil (rcAt (rrow l10 (Int.toNat x2)) 2)) (.ints .i64 (RC.ints (rcAt (rrow l10 (Int.toNat x2)) 2)))), (.arr false (RC.nil (rcAt (rrow l10 (Int.toNat x2)) 3)) (.ints .i64 (RC.ints (rcAt (rrow l10 (Int.toNat x2)) 3)))), (.arr false (RC.nil (rcAt (rrow l10 (Int.toNat x2)) 4)) (.ints .i64 (RC.ints (rcAt (rrow l10 (Int.toNat x2)) 4))))]), (.int .i64 (x0))]).bind fun r0 =>
 cond (decide (List.length l8 + List.length [[RC.n (D.toInt (D.cell 0 (nth r0 0))), RC.r3 (D.nil (D.cell 1 (nth r0 0))) (D.r3 (D.cell 1 (nth r0 0))), RC.is (D.nil (D.cell 2 (nth r0 0))) (D.ints (D.cell 2 (nth r0 0))), RC.is (D.nil (D.cell 3 (nth r0 0))) (D.ints (D.cell 3 (nth r0 0))), RC.is (D.nil (D.cell 4 (nth r0 0))) (D.ints (D.cell 4 (nth r0 0)))]] ≤ rowMax))
 (lp k laws_FnStepAll [] fu 3100006 n (qkn x0 x1 (IntKind.wrap .i64 (x2 + (1 : Int))) x3 x4 x5 x6 (z7 && decide (List.length (l8 ++ [[RC.n (D.toInt (D.cell 0 (nth r0 0))), RC.r3 (D.nil (D.cell 1 (nth r0 0))) (D.r3 (D.cell 1 (nth r0 0))), RC.is (D.nil (D.cell 2 (nth r0 0))) (D.ints (D.cell 2 (nth r0 0))), RC.is (D.nil (D.cell 3 (nth r0 0))) (D.ints (D.cell 3 (nth r0 0))), RC.is (D.nil (D.cell 4 (nth r0 0))) (D.ints (D.cell 4 (nth r0 0)))]]) = 0)) (l8 ++ [[RC.n (D.toInt (D.cell 0 (nth r0 0))), RC.r3 (D.nil (D.cell 1 (nth r0 0))) (D.r3 (D.cell 1 (nth r0 0))), RC.is (D.nil (D.cell 2 (nth r0 0))) (D.ints (D.cell 2 (nth r0 0))), RC.is (D.nil (D.cell 3 (nth r0 0))) (D.ints (D.cell 3 (nth r0 0))), RC.is (D.nil (D.cell 4 (nth r0 0))) (D.ints (D.cell 4 (nth r0 0)))]]) z9 l10 z11 l12 z13 l14))
 (none))
 (none))
 (cond (!decide (nI (List.length l8) = nI (List.length l10)))
 (some [(.bool (false))])
 (lp k laws_FnStepAll [] fu 9 k (qkp (0 : Int) z9 l10 z13 l14 z7 l8))) := by kernel_rfl
theorem qg4 (k n : Nat) (fu : List (Nat × Nat)) (x0 x1 : Int) (x2 x3 z4 : Bool) (l5 : List Int) (z6 : Bool) (l7 : List (List RC)) : lp k laws_FnStepAll [] fu 4200003 (n + 1) (qko x0 x1 x2 x3 z4 l5 z6 l7) =
 cond (decide (x1 < nI (List.length l5)))
 (cond (decide (x1 < (4000 : Int)))
 (cond (decide ((0 : Int) ≤ x1) && decide (x1 < nI (List.length l5)))
 (lp k laws_FnStepAll [] fu 4200003 n (qko (bitN BinOp.and .i64 (IntKind.wrap .i64 (IntKind.wrap .i64 (IntKind.wrap .i64 (x0 * (131 : Int)) + IntKind.wrap .i64 (List.getD l5 (Int.toNat x1) (0 : Int))) + (7 : Int))) (1073741823 : Int)) (IntKind.wrap .i64 (x1 + (1 : Int))) x2 x3 z4 l5 z6 l7))
 (none))
 ((go k spec_l07State [(.ptr true [(.arr false (z4) (.ints IntKind.u8 (l5))), (.int .i64 (0 : Int)), (.int .i64 (x0))])]).bind fun r0 =>
 lp k laws_FnStepAll [] fu 1000005 k (qkl (0 : Int) x2 x3 z4 l5 (D.toInt (D.cell 1 (nth r0 1))) (D.toInt (D.cell 2 (nth r0 1))) (D.nil (D.cell 1 (nth r0 0))) (D.r3 (D.cell 1 (nth r0 0))) (D.nil (D.cell 2 (nth r0 0))) (D.ints (D.cell 2 (nth r0 0))) (D.nil (D.cell 3 (nth r0 0))) (D.ints (D.cell 3 (nth r0 0))) (D.nil (D.cell 4 (nth r0 0))) (D.ints (D.cell 4 (nth r0 0))) (D.toInt (D.cell 0 (nth r0 0))) false ([[RC.n (D.toInt (D.cell 0 (nth r0 0))), RC.r3 (D.nil (D.cell 1 (nth r0 0))) (D.r3 (D.cell 1 (nth r0 0))), RC.is (D.nil (D.cell 2 (nth r0 0))) (D.ints (D.cell 2 (nth r0 0))), RC.is (D.nil (D.cell 3 (nth r0 0))) (D.ints (D.cell 3 (nth r0 0))), RC.is (D.nil (D.cell 4 (nth r0 0))) (D.ints (D.cell 4 (nth r0 0)))]]))))
 ((go k spec_l07State [(.ptr true [(.arr false (z4) (.ints IntKind.u8 (l5))), (.int .i64 (0 : Int)), (.int .i64 (x0))])]).bind fun r1 =>
 lp k laws_FnStepAll [] fu 1000005 k (qkl (0 : Int) x2 x3 z4 l5 (D.toInt (D.cell 1 (nth r1 1))) (D.toInt (D.cell 2 (nth r1 1))) (D.nil (D.cell 1 (nth r1 0))) (D.r3 (D.cell 1 (nth r1 0))) (D.nil (D.cell 2 (nth r1 0))) (D.ints (D.cell 2 (nth r1 0))) (D.nil (D.cell 3 (nth r1 0))) (D.ints (D.cell 3 (nth r1 0))) (D.nil (D.cell 4 (nth r1 0))) (D.ints (D.cell 4 (nth r1 0))) (D.toInt (D.cell 0 (nth r1 0))) false ([[RC.n (D.toInt (D.cell 0 (nth r1 0))), RC.r3 (D.nil (D.cell 1 (nth r1 0))) (D.r3 (D.cell 1 (nth r1 0))), RC.is (D.nil (D.cell 2 (nth r1 0))) (D.ints (D.cell 2 (nth r1 0))), RC.is (D.nil (D.cell 3 (nth r1 0))) (D.ints (D.cell 3 (nth r1 0))), RC.is (D.nil (D.cell 4 (nth r1 0))) (D.ints (D.cell 4 (nth r1 0)))]]))) := by kernel_rfl
theorem qg5 (k n : Nat) (fu : List (Nat × Nat)) (x0 : Int) (z1 : Bool) (l2 : List (List RC)) (z3 : Bool) (l4 : List Int) (z5 : Bool) (l6 : List (List RC)) : lp k laws_FnStepAll [] fu 9 (n + 1) (qkp x0 z1 l2 z3 l4 z5 l6) =
 cond (decide (x0 < nI (List.length l2)))
 (cond (decide ((0 : Int) ≤ x0) && decide (x0 < nI (List.length l6)))
 (cond (decide ((0 : Int) ≤ x0) && decide (x0 < nI (List.length l2)))
 (cond (decide ((0 : Int) ≤ (0 : Int)) && decide ((0 : Int) < nI (List.length l4)))
 ((go k spec_StepState [(.agg [(.int .i64 (RC.num (rcAt (rrow l2 (Int.toNat x0)) 0))), (.arr false (RC.nil (rcAt (rrow l2 (Int.toNat x0)) 1)) (.r3 (RC.r3s (rcAt (rrow l2 (Int.toNat x0)) 1)))), (.arr false (RC.nil (rcAt (rrow l2 (Int.toNat x0)) 2)) (.ints .i64 (RC.ints (rcAt (rrow l2 (Int.toNat x0)) 2)))), (.arr false (RC.nil (rcAt (rrow l2 (Int.toNat x0)) 3)) (.ints .i64 (RC.ints (rcAt (rrow l2 (Int.toNat x0)) 3)))), (.arr false (RC.nil (rcAt (rrow l2 (Int.toNat x0)) 4)) (.ints .i64 (RC.ints (rcAt (rrow l2 (Int.toNat x0)) 4))))]), (.int .i64 (Int.tmod (List.getD l4 (Int.toNat (0 : Int)) (0 : Int)) (32 : Int)))]).bind fun r0 =>
 (go k spec_SameState [(.agg [(.int .i64 (RC.num (rcAt (rrow l6 (Int.toNat x0)) 0))), (.arr false (RC.nil (rcAt (rrow l6 (Int.toNat x0)) 1)) (.r3 (RC.r3s (rcAt (rrow l6 (Int.toNat x0)) 1)))), (.arr false (RC.nil (rcAt (rrow l6 (Int.toNat x0)) 2)) (.ints .i64 (RC.ints (rcAt (rrow l6 (Int.toNat x0)) 2)))), (.arr false (RC.nil (rcAt (rrow l6 (Int.toNat x0)) 3)) (.ints .i64 (RC.ints (rcAt (rrow l6 (Int.toNat x0)) 3)))), (.arr false (RC.nil (rcAt (rrow l6 (Int.toNat x0)) 4)) (.ints .i64 (RC.ints (rcAt (rrow l6 (Int.toNat x0)) 4))))]), (.agg [(.int .i64 (D.toInt (D.cell 0 (nth r0 0)))), (.arr false (D.nil (D.cell 1 (nth r0 0))) (.r3 (D.r3 (D.cell 1 (nth r0 0))))), (.arr false (D.nil (D.cell 2 (nth r0 0))) (.ints .i64 (D.ints (D.cell 2 (nth r0 0))))), (.arr false (D.nil (D.cell 3 (nth r0 0))) (.ints .i64 (D.ints (D.cell 3 (nth r0 0))))), (.arr false (D.nil (D.cell 4 (nth r0 0))) (.ints .i64 (D.ints (D.cell 4 (nth r0 0)))))])]).bind fun r1 =>
 cond (!bit (nth r1 0))
 (some [(.bool (false))])
 (lp k laws_FnStepAll [] fu 9 n (qkp (IntKind.wrap .i64 (x0 + (1 : Int))) z1 l2 z3 l4 z5 l6)))
 (none))
 (none))
 (none))
 (some [(.bool (true))]) := by kernel_rfl
theorem qe6 (k : Nat) (a0 : Int) (a1z : Bool) (a1 : List (Int × Int × Int)) (a2z : Bool) (a2 : List Int) (a3z : Bool) (a3 : List Int) (a4z : Bool) (a4 : List Int) (b0 : Int) (b1z : Bool) (b1 : List (Int × Int × Int)) (b2z : Bool) (b2 : List Int) (b3z : Bool) (b3 : List Int) (b4z : Bool) (b4 : List Int) : go (k + 1) spec_SameState [(.agg [(.int .i64 (a0)), (.arr false (a1z) (.r3 (a1))), (.arr false (a2z) (.ints .i64 (a2))), (.arr false (a3z) (.ints .i64 (a3))), (.arr false (a4z) (.ints .i64 (a4)))]), (.agg [(.int .i64 (b0)), (.arr false (b1z) (.r3 (b1))), (.arr false (b2z) (.ints .i64 (b2))), (.arr false (b3z) (.ints .i64 (b3))), (.arr false (b4z) (.ints .i64 (b4)))])] =
 (go k spec_SameMesh [(.agg [(.int .i64 (a0)), (.arr false (a1z) (.r3 (a1)))]), (.agg [(.int .i64 (b0)), (.arr false (b1z) (.r3 (b1)))])]).bind fun r0 =>
 cond (bit (nth r0 0))
 ((go k spec_l24Same [(.arr false (a2z) (.ints .i64 (a2))), (.arr false (b2z) (.ints .i64 (b2)))]).bind fun r1 =>
 cond (bit (nth r1 0))
 ((go k spec_l24Same [(.arr false (a3z) (.ints .i64 (a3))), (.arr false (b3z) (.ints .i64 (b3)))]).bind fun r2 =>
 cond (bit (nth r2 0))
 ((go k spec_l24Same [(.arr false (a4z) (.ints .i64 (a4))), (.arr false (b4z) (.ints .i64 (b4)))]).bind fun r3 =>
 some [(.bool (bit (nth r3 0)))])
 (some [(.bool (false))]))
 (some [(.bool (false))]))
 (some [(.bool (false))]) := by kernel_rfl

end Go.Proofs.Ytcaapedadpnjoaa
end
section
namespace Go.Proofs.Ytcaapedadpnjoaa
open Go.Ev
set_option maxRecDepth 20000
theorem rmE' (l : List (List RC)) (h : l.length ≤ 100) (y : List RC) : decide (l.length + [y].length ≤ rowMax) = true := decide_eq_true (by show l.length + 1 ≤ 1048576; omega)
theorem qj2 (r : Int) (c : List Cell) (m t b : List Int) : [RC.n r, RC.r3 false c, RC.is false m, RC.is false t, RC.is false b] = rowS r c m t b := Eq.trans rfl rfl
def qj6 (r : Int) (c : List Cell) (t b : List Int) (tk : Int) (L : List (List Int)) : List (List RC) := L.map fun m => rowS r c (tab c.length (stM tk c m b)) (tab c.length (stT tk c m t b)) b
theorem qj7 (r : Int) (c : List Cell) (t b : List Int) (tk : Int) (L : List (List Int)) : (qj6 r c t b tk L).length = L.length := List.length_map ..
theorem qka {r : Int} {c : List Cell} {t b : List Int} {tk : Int} {L : List (List Int)} {i : Nat} (h : i < L.length) : rrow (qj6 r c t b tk L) i = rowS r c (tab c.length (stM tk c (L.getD i []) b)) (tab c.length (stT tk c (L.getD i []) t b)) b := by
  unfold rrow qj6
  simp [List.getD_eq_getElem?_getD, h]
theorem qj8 {r : Int} {c : List Cell} {t b : List Int} {tk : Int} {L : List (List Int)} {j : Nat} (h : j < L.length) : qj6 r c t b tk (L.take j) ++ [rowS r c (tab c.length (stM tk c (L.getD j []) b)) (tab c.length (stT tk c (L.getD j []) t b)) b] = qj6 r c t b tk (L.take (j + 1)) := by
  have e : L.getD j [] = L[j] := by simp [List.getD_eq_getElem?_getD, h]
  rw [List.take_succ_eq_append_getElem h, e]
  unfold qj6
  rw [List.map_append]
  rfl
theorem qcd (k : Nat) (hk : 2000000 ≤ k) (r : Int) (c : List Cell) (m t b : List Int) (F : StF r c m t b) : go (k + 2) spec_SameState [.agg [.int .i64 (r), .arr false (false) (.r3 (c)), .arr false (false) (.ints .i64 (m)), .arr false (false) (.ints .i64 (t)), .arr false (false) (.ints .i64 (b))], .agg [.int .i64 (r), .arr false (false) (.r3 (c)), .arr false (false) (.ints .i64 (m)), .arr false (false) (.ints .i64 (t)), .arr false (false) (.ints .i64 (b))]] = some [.bool true] := by
  rw [qe6]
  have cl := F.len; have ml := F.ml; have tl := F.tl; have bl := F.bl; have rr := F.rr
  have d1 : decide (m = m) = true := dT rfl
  have d2 : decide (t = t) = true := dT rfl
  have d3 : decide (b = b) = true := dT rfl
  simp (disch := omega) only [qce, qla, bit, qc4, dTT, qax, nth0, ql8, qdj]
theorem qhy (k : Nat) (hk : 2000000 ≤ k) (fu : List (Nat × Nat)) (r : Int) (c : List Cell) (t b : List Int) (L : List (List Int)) (E : Ens r c t b L) (z z3 z5 : Bool) (P : List Int) (hP : 0 < P.length) (tk : Int) (htk : Int.tmod (P.getD 0 0) 32 = tk) (h0 : 0 ≤ tk) : ∀ (N j : Nat), j ≤ L.length → L.length - j < N →
    lp (k + 12) laws_FnStepAll [] fu 9 (N) (qkp (j : Int) z (qj3 r c t b L) z3 P z5 (qj6 r c t b tk L)) = some [.bool true]
  | 0, j, hj, hN => by omega
  | N + 1, j, hj, hN => by
    rw [qg5]
    have ln := qj5 r c t b L; have lo := qj7 r c t b tk L
    have ll := E.le
    by_cases g : j < L.length
    · have IH := qhy k hk fu r c t b L E z z3 z5 P hP tk htk h0 N (j + 1) (by omega) (by omega)
      have F := E.at g
      have cl := F.len; have ml := F.ml; have tl := F.tl; have bl := F.bl; have rr := F.rr
      have ra := qj9 (r := r) (c := c) (t := t) (b := b) g
      have rb := qka (r := r) (c := c) (t := t) (b := b) (tk := tk) g
      have eT := qci (k + 4) (by omega) r false c false (L.getD j []) false t false b tk (by omega) (by omega) (by omega) (by omega)
      rw [show (stOk r c (L.getD j []) t b && decide (0 ≤ tk)) = true by rw [stF.2 F, dT h0]; rfl, qdj, qdj] at eT
      have eS := qcd (k + 10) (by omega) r c (tab c.length (stM tk c (L.getD j []) b)) (tab c.length (stT tk c (L.getD j []) t b)) b (qlv F tk)
      simp (disch := omega) only [nI, ln, dT, lo, Bool.and_true, Int.toNat_natCast, ra, rcS0, qjw, rcS1, qju, qjx, rcS2, qjv, qjt, rcS3, rcS4, Int.toNat_zero, htk, eT, rb, bit, qc6, qmn, IH, qax, nth0, qc7, ql9, qc8, qja, qjs, qc9, qgi, qda, qdb, eS, ql8, Bool.not_true, qdh, qdj]
    · simp (disch := omega) only [nI, ln, dF, dT, Bool.and_false, Bool.and_true, Int.toNat_natCast, bit, qc6, qmn, qdj, qdh]
theorem qhx (k : Nat) (hk : 2000000 ≤ k) (fu : List (Nat × Nat)) (x3 x4 : Bool) (x5 x6 : Int) (r : Int) (c : List Cell) (t b : List Int) (L : List (List Int)) (E : Ens r c t b L) (z11 : Bool) (l12 : List Int) (z13 : Bool) (P : List Int) (tk : Int) (h0 : 0 ≤ tk) : ∀ (N j : Nat), j ≤ L.length → L.length - j < N →
    lp (k + 12) laws_FnStepAll [] fu 3100006 (N) (qkn tk (L.length : Int) (j : Int) x3 x4 x5 x6 false (qj6 r c t b tk (L.take j)) false (qj3 r c t b L) z11 l12 z13 P) = lp (k + 12) laws_FnStepAll [] fu 9 (k + 12) (qkp 0 false (qj3 r c t b L) z13 P false (qj6 r c t b tk L))
  | 0, j, hj, hN => by omega
  | N + 1, j, hj, hN => by
    rw [qg3]
    have ln := qj5 r c t b L; have lo := qj7 r c t b tk (L.take j)
    have ll := E.le
    have lt : (L.take j).length = j := by rw [List.length_take]; omega
    by_cases g : j < L.length
    · have IH := qhx k hk fu x3 x4 x5 x6 r c t b L E z11 l12 z13 P tk h0 N (j + 1) (by omega) (by omega)
      have F := E.at g
      have ra := qj9 (r := r) (c := c) (t := t) (b := b) g
      have eS := qbe (k + 3) (by omega) r c (L.getD j []) t b tk F h0
      have nx := qj8 (r := r) (c := c) (t := t) (b := b) (tk := tk) g
      have rm := rmE' (qj6 r c t b tk (L.take j)) (by omega)
      simp (disch := omega) only [dT, nI, ln, Bool.and_true, Int.toNat_natCast, ra, rcS0, qjw, rcS1, qju, qjx, rcS2, qjv, qjt, rcS3, rcS4, eS, rm, qc6, qmn, Bool.false_and, qdj, qax, nth0, qc7, ql9, qc8, qja, qjs, qc9, qgi, qda, qdb, qj2, nx, IH, dF, Bool.not_false]
    · have : j = L.length := by omega
      subst this
      rw [List.take_length]
      rw [List.take_length] at lo
      simp (disch := omega) only [dF, dT, nI, ln, Bool.and_false, Int.toNat_natCast, lo, qc6, qmn, Bool.false_and, qdh, dTT, Bool.not_true]
theorem qhz (k : Nat) (hk : 2000000 ≤ k) (fu : List (Nat × Nat)) (x2 x3 : Bool) (z : Bool) (l : List Int) (hl : (l.length : Int) ≤ 1048576) (r : Int) (c : List Cell) (m t b : List Int) (F : StF r c m t b) (hs : isum m ≤ 2560000) (L : List (List Int)) (hL : L.length ≤ 100) (p : Nat) (hp : p ≤ 100) : ∀ (N j : Nat) (m' : List Int) (i h : Int), j ≤ m.length → m.length - j < N → 0 ≤ i → i ≤ l.length → More m m' 0 → (∀ q, j ≤ q → m'.getD q 0 = m.getD q 0) →
    ∃ (m'' : List Int) (i' h' : Int), lp (k + 12) laws_FnStepAll [] fu 1000009 (N) (qkm (p : Int) (j : Int) x2 x3 z l i h false c false m false t false b r false (qj3 r c t b L) false c false m' false t false b r) = lp (k + 12) laws_FnStepAll [] fu 1000005 (fuelOf fu 5) (qkl ((p + 1 : Nat) : Int) x2 x3 z l i' h' false c false m false t false b r false (qj3 r c t b (L ++ [m'']))) ∧ (0 ≤ i' ∧ i' ≤ l.length) ∧ More m m'' 0
  | 0, j, m', i, h, hj, hN, h0, h1, M, A => by omega
  | N + 1, j, m', i, h, hj, hN, h0, h1, M, A => by
    have e := qg2 (k + 12) N fu (p : Int) (j : Int) x2 x3 z l i h false c false m false t false b r false (qj3 r c t b L) false c false m' false t false b r
    have ml := M.len
    have cl := F.len; have fm := F.ml
    by_cases g : j < m.length
    · obtain ⟨u, i1, k1, e1, b1, q1, r1⟩ := qck (k + 10) (by omega) z l i h 50 hl h0 h1 (by omega) (by omega)
      have a := A j (Nat.le_refl _)
      have mm := qis m t (by rw [F.ml, F.tl]) F.mt j
      obtain ⟨m'', i2, k2, e2, p2⟩ := qhz k hk fu x2 x3 z l hl r c m t b F hs L hL p hp N (j + 1) (m'.set j (m'.getD j 0 + u)) i1 k1 (by omega) (by omega) q1 r1
        ⟨by rw [List.length_set]; exact M.len, fun q hq => by
          rw [qlb]
          by_cases h' : q = j
          · subst h'; rw [if_pos (by omega)]; omega
          · rw [if_neg (by omega)]; exact M.lo q hq⟩ (fun q hq => by rw [qlb, if_neg (by omega)]; exact A q (by omega))
      simp (disch := omega) only [nI, dT, Bool.and_true, e1, qc6, qmn, Int.toNat_natCast, qdj, qax, nth1, qjq, ql9, qjr, nth0, e2, Bool.false_and] at e
      exact ⟨m'', i2, k2, e, p2⟩
    · have rm := rmE' (qj3 r c t b L) (by rw [qj5]; exact hL)
      simp (disch := omega) only [nI, dF, dT, Bool.and_false, qc6, qmn, Int.toNat_natCast, qdh, qj2, rm, qj4, Bool.false_and, qdj] at e
      exact ⟨m', i, h, e, ⟨h0, h1⟩, M⟩
theorem qh1 (k : Nat) (hk : 2000000 ≤ k) (x2 x3 : Bool) (z : Bool) (l : List Int) (hl : (l.length : Int) ≤ 1048576) (r : Int) (c : List Cell) (m t b : List Int) (F : StF r c m t b) (hs : isum m ≤ 2560000) : ∀ (N p : Nat) (fu : List (Nat × Nat)) (L : List (List Int)) (i h : Int), L.length = p + 1 → p ≤ 3 → 4 - p < N → 0 ≤ i → i ≤ l.length → Ens r c t b L →
    lp (k + 12) laws_FnStepAll [] fu 1000005 (N) (qkl (p : Int) x2 x3 z l i h false c false m false t false b r false (qj3 r c t b L)) = some [.bool true]
  | 0, p, fu, L, i, h, hp, hp3, hN, h0, h1, E => by omega
  | N + 1, p, fu, L, i, h, hp, hp3, hN, h0, h1, E => by
    have e := qg1 (k + 12) N fu (p : Int) x2 x3 z l i h false c false m false t false b r false (qj3 r c t b L)
    have fm := F.ml; have ft := F.tl; have cl := F.len; have bl := F.bl; have rr := F.rr
    have ln := qj5 r c t b L
    obtain ⟨u, i1, k1, e1, b1, q1, r1⟩ := qck (k + 10) (by omega) z l i h 3 hl h0 h1 (by omega) (by omega)
    by_cases g : (p : Int) < 1 + u
    · obtain ⟨m'', i2, k2, e2, q2, M⟩ := qhz k hk ((5, N) :: fu) x2 x3 z l hl r c m t b F hs L (by omega) p (by omega) (k + 12) 0 m i1 k1 (by omega) (by omega) q1 r1 (More.refl m) (fun q _ => rfl)
      have IH := qh1 k hk x2 x3 z l hl r c m t b F hs N (p + 1) ((5, N) :: fu) (L ++ [m'']) i2 k2 (by rw [List.length_append, hp]; rfl) (by omega) (by omega) q2.1 q2.2 ⟨by simp, by rw [List.length_append, hp]; show p + 1 + 1 ≤ 100; omega, fun x hx => by
        rcases List.mem_append.1 hx with hx | hx
        · exact E.ok x hx
        · rw [List.mem_singleton.1 hx]; exact qi5 F M hs⟩
      rw [qf7, show ((0 : Nat) : Int) = 0 from rfl] at e2
      simp (disch := omega) only [e1, qcx, qax, nth0, qc8, qja, qjs, qc9, qgi, qda, qdb, qc7, ql9, dT, nI, Bool.true_and, bit, qmn, nth1, qjq, qjr, e2, IH, qdj] at e
      exact e
    · obtain ⟨P, eP, hP, pP⟩ := qb7 (k + 9) (by omega) z l hl
      obtain ⟨lo, up, e2, V⟩ := qa4 k (by omega) r c t b L E false
      have p0 := pP _ (qf9 (show 0 < P.length by omega) 0)
      obtain ⟨tk, htk⟩ : ∃ tk, Int.tmod (P.getD 0 0) 32 = tk := ⟨_, rfl⟩
      have t0 : 0 ≤ tk := by rw [← htk, Int.tmod_eq_emod_of_nonneg p0.1]; omega
      have e6 := qhx k hk fu x2 x3 (P.getD 0 0) tk r c t b L E z l false P tk t0 (k + 12) 0 (by omega) (by omega)
      have e9 := qhy k hk fu r c t b L E false false false P (by omega) tk htk t0 (k + 12) 0 (by omega) (by omega)
      rw [show ((0 : Nat) : Int) = 0 from rfl, List.take_zero, show qj6 r c t b tk [] = [] from rfl] at e6
      rw [show ((0 : Nat) : Int) = 0 from rfl] at e9
      simp (disch := omega) only [e1, eP, dT, nI, Bool.true_and, e2, bit, Int.toNat_zero, ln, qax, nth2, ql8, Bool.not_true, qdh, nth0, qgi, htk, dF, qja, e6, e9, qdj, ql9, qmn, nth1, qjq, qjr] at e
      exact e
theorem qh0 (k : Nat) (hk : 2000000 ≤ k) (fu : List (Nat × Nat)) (x2 x3 : Bool) (z : Bool) (l : List Int) (hl : (l.length : Int) ≤ 1048576) (z6 : Bool) (l7 : List (List RC)) : ∀ (N j : Nat) (h : Int), j ≤ l.length → l.length - j < N →
    lp (k + 12) laws_FnStepAll [] fu 4200003 (N) (qko h (j : Int) x2 x3 z l z6 l7) = some [.bool true]
  | 0, j, h, hj, hN => by omega
  | N + 1, j, h, hj, hN => by
    have e := qg4 (k + 12) N fu h (j : Int) x2 x3 z l z6 l7
    obtain ⟨r, c, m, t, b, i1, h1, e1, p1, S1, r3⟩ := qcy (k + 1) (by omega) z l 0 h hl (by omega) (by omega)
    have eO := qh1 k hk x2 x3 z l hl r c m t b S1 r3.2 (k + 12) 0 fu [m] i1 h1 rfl (by omega) (by omega) p1.1 p1.2 ⟨by simp, by simp, fun x hx => by rw [List.mem_singleton.1 hx]; exact S1⟩
    rw [show ((0 : Nat) : Int) = 0 from rfl, show qj3 r c t b [m] = [rowS r c m t b] from rfl] at eO
    by_cases g : j < l.length
    · by_cases g2 : (j : Int) < 4000
      · simp (disch := omega) only [nI, dT, Bool.and_true, Int.toNat_natCast, qc6, qmn, qdj] at e
        exact e.trans (qh0 k hk fu x2 x3 z l hl z6 l7 N (j + 1) _ (by omega) (by omega))
      · simp (disch := omega) only [nI, dT, dF, Bool.and_true, Int.toNat_natCast, qc6, qmn, qdj, e1, qax, nth1, qjq, ql9, qjr, nth0, qc8, qja, qjs, qc9, qgi, qda, qdb, qc7, qj2, eO, qdh] at e
        exact e
    · simp (disch := omega) only [nI, dF, dT, Bool.and_false, Int.toNat_natCast, qc6, qmn, qdh, e1, qax, nth1, qjq, ql9, qjr, nth0, qc8, qja, qjs, qc9, qgi, qda, qdb, qc7, qj2, eO] at e
      exact e
theorem law_FnStepAll (k : Nat) (hk : 2000000 ≤ k) (az : Bool) (a : List Int) : go (k + 13) laws_FnStepAll [(.arr false (az) (.ints IntKind.u8 (a)))] = some [.bool true] := by
  by_cases h : 1048576 < (a.length : Int)
  · rw [qen]; simp (disch := omega) only [qby, dT, bit, nI, qax, nth0, ql8, qdj]
  have h : (a.length : Int) ≤ 1048576 := by omega
  have e := qh0 k hk [] false false az a h true [] (k + 12) 0 (98231 + (a.length : Int)) (by omega) (by omega)
  rw [show ((0 : Nat) : Int) = 0 from rfl] at e
  rw [qen]
  simp (disch := omega) only [qby, dF, bit, nI, qmn, qax, nth0, ql8, qdh]
  exact e
end Go.Proofs.Ytcaapedadpnjoaa
end
