/- What the program's functions compute, and plain facts of it (part 1). No condition beyond those that each theorem states. -/
import Derived.Test.YtcaapedadpnjoaaXA
import Derived.ProofKit
set_option linter.unusedVariables false
set_option linter.unusedSimpArgs false
section
namespace Go.Proofs.Ytcaapedadpnjoaa
open Go.Ev
theorem qfv (k : Nat) (az : Bool) (a : List Int) : go (k + 1) laws_FnFrames [(.arr false (az) (.ints IntKind.u8 (a)))] =
 (go k laws_big [(.arr false (az) (.ints IntKind.u8 (a)))]).bind fun r0 =>
 cond (bit (nth r0 0))
 (some [(.bool (true))])
 ((go k spec_DrawState [(.arr false (az) (.ints IntKind.u8 (a)))]).bind fun r1 =>
 (go k spec_DrawPlan [(.arr false (az) (.ints IntKind.u8 (a)))]).bind fun r2 =>
 (go k spec_DrawPlaces [(.arr false (az) (.ints IntKind.u8 (a)))]).bind fun r3 =>
 cond (decide ((0 : Int) ≤ (0 : Int)) && decide ((0 : Int) < nI (List.length (D.ints (nth r3 0)))))
 ((go k spec_RunMacro [(.agg [(.int .i64 (D.toInt (D.cell 0 (nth r1 0)))), (.arr false (D.nil (D.cell 1 (nth r1 0))) (.r3 (D.r3 (D.cell 1 (nth r1 0))))), (.arr false (D.nil (D.cell 2 (nth r1 0))) (.ints .i64 (D.ints (D.cell 2 (nth r1 0))))), (.arr false (D.nil (D.cell 3 (nth r1 0))) (.ints .i64 (D.ints (D.cell 3 (nth r1 0))))), (.arr false (D.nil (D.cell 4 (nth r1 0))) (.ints .i64 (D.ints (D.cell 4 (nth r1 0)))))]), (.agg [(.int .i64 (D.toInt (D.cell 0 (nth r2 0)))), (.int .i64 (D.toInt (D.cell 1 (nth r2 0)))), (.int .i64 (D.toInt (D.cell 2 (nth r2 0)))), (.int .i64 (D.toInt (D.cell 3 (nth r2 0)))), (.int .i64 (D.toInt (D.cell 4 (nth r2 0)))), (.int .i64 (D.toInt (D.cell 5 (nth r2 0)))), (.int .i64 (D.toInt (D.cell 6 (nth r2 0)))), (.int .i64 (D.toInt (D.cell 7 (nth r2 0)))), (.int .i64 (D.toInt (D.cell 8 (nth r2 0))))]), (.int .i64 (0 : Int))]).bind fun r4 =>
 (go k impl_WriteFrame [(.agg [(.int .i64 (D.toInt (D.cell 0 (nth r1 0)))), (.arr false (D.nil (D.cell 1 (nth r1 0))) (.r3 (D.r3 (D.cell 1 (nth r1 0))))), (.arr false (D.nil (D.cell 2 (nth r1 0))) (.ints .i64 (D.ints (D.cell 2 (nth r1 0))))), (.arr false (D.nil (D.cell 3 (nth r1 0))) (.ints .i64 (D.ints (D.cell 3 (nth r1 0))))), (.arr false (D.nil (D.cell 4 (nth r1 0))) (.ints .i64 (D.ints (D.cell 4 (nth r1 0)))))]), (.int .i64 (0 : Int)), (.int .i64 (IntKind.wrap .i64 (Int.tmod (List.getD (D.ints (nth r3 0)) (Int.toNat (0 : Int)) (0 : Int)) (300 : Int) + (1 : Int))))]).bind fun r5 =>
 (go k impl_WriteFrame [(.agg [(.int .i64 (D.toInt (D.cell 0 (nth r4 0)))), (.arr false (D.nil (D.cell 1 (nth r4 0))) (.r3 (D.r3 (D.cell 1 (nth r4 0))))), (.arr false (D.nil (D.cell 2 (nth r4 0))) (.ints .i64 (D.ints (D.cell 2 (nth r4 0))))), (.arr false (D.nil (D.cell 3 (nth r4 0))) (.ints .i64 (D.ints (D.cell 3 (nth r4 0))))), (.arr false (D.nil (D.cell 4 (nth r4 0))) (.ints .i64 (D.ints (D.cell 4 (nth r4 0)))))]), (.int .i64 ((1 : Int))), (.int .i64 (IntKind.wrap .i64 (Int.tmod (List.getD (D.ints (nth r3 0)) (Int.toNat (0 : Int)) (0 : Int)) (300 : Int) + (1 : Int))))]).bind fun r6 =>
 (go k impl_ReadFrame [(.agg [(.int .i64 (D.toInt (D.cell 0 (nth r6 0)))), (.int .i64 (D.toInt (D.cell 1 (nth r6 0)))), (.arr false (D.nil (D.cell 2 (nth r6 0))) (.r3 (D.r3 (D.cell 2 (nth r6 0))))), (.int .i64 (D.toInt (D.cell 3 (nth r6 0)))), (.int .i64 (D.toInt (D.cell 4 (nth r6 0)))), (.int .i64 (D.toInt (D.cell 5 (nth r6 0)))), (.arr false (D.nil (D.cell 6 (nth r6 0))) (.ints .i64 (D.ints (D.cell 6 (nth r6 0)))))])]).bind fun r7 =>
 cond (bit (nth r5 1))
 (cond (bit (nth r6 1))
 (cond (bit (nth r7 1))
 (cond (decide (nI (List.length (D.ints (nth r7 0))) = nI (List.length (D.ints (D.cell 2 (nth r4 0))))))
 ((go k impl_FramesHold [(.rows (false) [.n, .n, .r3, .n, .n, .n, .is] ([[RC.n (D.toInt (D.cell 0 (nth r5 0))), RC.n (D.toInt (D.cell 1 (nth r5 0))), RC.r3 (D.nil (D.cell 2 (nth r5 0))) (D.r3 (D.cell 2 (nth r5 0))), RC.n (D.toInt (D.cell 3 (nth r5 0))), RC.n (D.toInt (D.cell 4 (nth r5 0))), RC.n (D.toInt (D.cell 5 (nth r5 0))), RC.is (D.nil (D.cell 6 (nth r5 0))) (D.ints (D.cell 6 (nth r5 0)))], [RC.n (D.toInt (D.cell 0 (nth r6 0))), RC.n (D.toInt (D.cell 1 (nth r6 0))), RC.r3 (D.nil (D.cell 2 (nth r6 0))) (D.r3 (D.cell 2 (nth r6 0))), RC.n (D.toInt (D.cell 3 (nth r6 0))), RC.n (D.toInt (D.cell 4 (nth r6 0))), RC.n (D.toInt (D.cell 5 (nth r6 0))), RC.is (D.nil (D.cell 6 (nth r6 0))) (D.ints (D.cell 6 (nth r6 0)))]])), (.arr false (false) (.r4 ([(D.toInt (D.cell 0 (nth r4 1)), D.toInt (D.cell 1 (nth r4 1)), D.toInt (D.cell 2 (nth r4 1)), D.toInt (D.cell 3 (nth r4 1)))])))]).bind fun r8 =>
 cond (bit (nth r8 0))
 ((go k impl_FramesHold [(.rows (false) [.n, .n, .r3, .n, .n, .n, .is] ([[RC.n (D.toInt (D.cell 0 (nth r5 0))), RC.n (D.toInt (D.cell 1 (nth r5 0))), RC.r3 (D.nil (D.cell 2 (nth r5 0))) (D.r3 (D.cell 2 (nth r5 0))), RC.n (D.toInt (D.cell 3 (nth r5 0))), RC.n (D.toInt (D.cell 4 (nth r5 0))), RC.n (D.toInt (D.cell 5 (nth r5 0))), RC.is (D.nil (D.cell 6 (nth r5 0))) (D.ints (D.cell 6 (nth r5 0)))], [RC.n (D.toInt (D.cell 0 (nth r6 0))), RC.n (D.toInt (D.cell 1 (nth r6 0))), RC.r3 (D.nil (D.cell 2 (nth r6 0))) (D.r3 (D.cell 2 (nth r6 0))), RC.n (IntKind.wrap .i64 (D.toInt (D.cell 3 (nth r6 0)) + (1 : Int))), RC.n (D.toInt (D.cell 4 (nth r6 0))), RC.n (D.toInt (D.cell 5 (nth r6 0))), RC.is (D.nil (D.cell 6 (nth r6 0))) (D.ints (D.cell 6 (nth r6 0)))]])), (.arr false (false) (.r4 ([(D.toInt (D.cell 0 (nth r4 1)), D.toInt (D.cell 1 (nth r4 1)), D.toInt (D.cell 2 (nth r4 1)), D.toInt (D.cell 3 (nth r4 1)))])))]).bind fun r9 =>
 cond (!bit (nth r9 0))
 ((go k impl_TotalWithin [(.agg [(.int .i64 (D.toInt (D.cell 0 (nth r5 0)))), (.int .i64 (D.toInt (D.cell 1 (nth r5 0)))), (.arr false (D.nil (D.cell 2 (nth r5 0))) (.r3 (D.r3 (D.cell 2 (nth r5 0))))), (.int .i64 (D.toInt (D.cell 3 (nth r5 0)))), (.int .i64 (D.toInt (D.cell 4 (nth r5 0)))), (.int .i64 (D.toInt (D.cell 5 (nth r5 0)))), (.arr false (D.nil (D.cell 6 (nth r5 0))) (.ints .i64 (D.ints (D.cell 6 (nth r5 0)))))])]).bind fun r10 =>
 cond (bit (nth r10 0))
 ((go k impl_TotalWithin [(.agg [(.int .i64 (D.toInt (D.cell 0 (nth r6 0)))), (.int .i64 (D.toInt (D.cell 1 (nth r6 0)))), (.arr false (D.nil (D.cell 2 (nth r6 0))) (.r3 (D.r3 (D.cell 2 (nth r6 0))))), (.int .i64 (D.toInt (D.cell 3 (nth r6 0)))), (.int .i64 (D.toInt (D.cell 4 (nth r6 0)))), (.int .i64 (D.toInt (D.cell 5 (nth r6 0)))), (.arr false (D.nil (D.cell 6 (nth r6 0))) (.ints .i64 (D.ints (D.cell 6 (nth r6 0)))))])]).bind fun r11 =>
 some [(.bool (bit (nth r11 0)))])
 (some [(.bool (false))]))
 (some [(.bool (false))]))
 (some [(.bool (false))]))
 (some [(.bool (false))]))
 (some [(.bool (false))]))
 (some [(.bool (false))]))
 (some [(.bool (false))]))
 (none)) := by kernel_rfl
def qmi (x0 x1 : Int) (z2 : Bool) (l3 : List (List RC)) (z4 : Bool) (l5 : List (Int × Int × Int × Int)) : St := ⟨fill 75 [(0, (.sl 0 none)), (1, (.sl 1 none)), (17, (.sl 0 none)), (18, (.int .i64 (x0))), (19, (.int .i64 (x1)))], [], [(.rows false (z2) [.n, .n, .r3, .n, .n, .n, .is] (l3)), (.arr false (z4) (.r4 (l5)))]⟩
theorem qe8 (k : Nat) (az : Bool) (a : List (List RC)) (bz : Bool) (b : List (Int × Int × Int × Int)) : go (k + 1) impl_FramesHold [(.rows (az) [.n, .n, .r3, .n, .n, .n, .is] (a)), (.arr false (bz) (.r4 (b)))] =
 cond (!decide (nI (List.length b) = IntKind.wrap .i64 (nI (List.length a) - (1 : Int))))
 (some [(.bool (false))])
 (lp k impl_FramesHold [] [] 4 k (qmi (nI (List.length a)) (0 : Int) az a bz b)) := by kernel_rfl
theorem qio (k n : Nat) (fu : List (Nat × Nat)) (x0 x1 : Int) (z2 : Bool) (l3 : List (List RC)) (z4 : Bool) (l5 : List (Int × Int × Int × Int)) : lp k impl_FramesHold [] fu 4 (n + 1) (qmi x0 x1 z2 l3 z4 l5) =
 cond (decide (x1 < x0))
 (cond (decide ((0 : Int) ≤ x1) && decide (x1 < nI (List.length l3)))
 ((go k impl_ReadFrame [(.agg [(.int .i64 (RC.num (rcAt (rrow l3 (Int.toNat x1)) 0))), (.int .i64 (RC.num (rcAt (rrow l3 (Int.toNat x1)) 1))), (.arr false (RC.nil (rcAt (rrow l3 (Int.toNat x1)) 2)) (.r3 (RC.r3s (rcAt (rrow l3 (Int.toNat x1)) 2)))), (.int .i64 (RC.num (rcAt (rrow l3 (Int.toNat x1)) 3))), (.int .i64 (RC.num (rcAt (rrow l3 (Int.toNat x1)) 4))), (.int .i64 (RC.num (rcAt (rrow l3 (Int.toNat x1)) 5))), (.arr false (RC.nil (rcAt (rrow l3 (Int.toNat x1)) 6)) (.ints .i64 (RC.ints (rcAt (rrow l3 (Int.toNat x1)) 6))))])]).bind fun r0 =>
 cond (!bit (nth r0 1))
 (some [(.bool (false))])
 (cond (decide (x1 = (0 : Int)))
 (lp k impl_FramesHold [] fu 4 n (qmi x0 (IntKind.wrap .i64 (x1 + (1 : Int))) z2 l3 z4 l5))
 (cond (decide ((0 : Int) ≤ IntKind.wrap .i64 (x1 - (1 : Int))) && decide (IntKind.wrap .i64 (x1 - (1 : Int)) < nI (List.length l3)))
 (cond (decide ((0 : Int) ≤ IntKind.wrap .i64 (x1 - (1 : Int))) && decide (IntKind.wrap .i64 (x1 - (1 : Int)) < nI (List.length l5)))
 (cond (decide (RC.num (rcAt (rrow l3 (Int.toNat x1)) 0) ≤ RC.num (rcAt (rrow l3 (Int.toNat (IntKind.wrap .i64 (x1 - (1 : Int))))) 0)))
 (some [(.bool (false))])
 (cond (!decide (RC.num (rcAt (rrow l3 (Int.toNat x1)) 3) = IntKind.wrap .i64 (IntKind.wrap .i64 (RC.num (rcAt (rrow l3 (Int.toNat (IntKind.wrap .i64 (x1 - (1 : Int))))) 3) + Prod.fst (List.getD l5 (Int.toNat (IntKind.wrap .i64 (x1 - (1 : Int)))) zz4)) - Prod.fst (Prod.snd (List.getD l5 (Int.toNat (IntKind.wrap .i64 (x1 - (1 : Int)))) zz4)))))
 (some [(.bool (false))])
 (cond (!decide (RC.num (rcAt (rrow l3 (Int.toNat x1)) 4) = IntKind.wrap .i64 (IntKind.wrap .i64 (RC.num (rcAt (rrow l3 (Int.toNat (IntKind.wrap .i64 (x1 - (1 : Int))))) 4) + Prod.fst (Prod.snd (Prod.snd (List.getD l5 (Int.toNat (IntKind.wrap .i64 (x1 - (1 : Int)))) zz4)))) - Prod.snd (Prod.snd (Prod.snd (List.getD l5 (Int.toNat (IntKind.wrap .i64 (x1 - (1 : Int)))) zz4))))))
 (some [(.bool (false))])
 (lp k impl_FramesHold [] fu 4 n (qmi x0 (IntKind.wrap .i64 (x1 + (1 : Int))) z2 l3 z4 l5)))))
 (none))
 (none))))
 (none))
 (some [(.bool (true))]) := by kernel_rfl
theorem qfe (k : Nat) (a0 a1 : Int) (a2z : Bool) (a2 : List (Int × Int × Int)) (a3 a4 a5 : Int) (a6z : Bool) (a6 : List Int) : go (k + 1) impl_ReadFrame [(.agg [(.int .i64 (a0)), (.int .i64 (a1)), (.arr false (a2z) (.r3 (a2))), (.int .i64 (a3)), (.int .i64 (a4)), (.int .i64 (a5)), (.arr false (a6z) (.ints .i64 (a6)))])] =
 (go k impl_DecompressList [(.arr false (a6z) (.ints .i64 (a6))), (.int .i64 (a5))]).bind fun r0 =>
 cond (!bit (nth r0 1))
 (some [(.arr true (true) (.ints .i64 ([]))), (.bool (false))])
 ((go k impl_MeshOk [(.agg [(.int .i64 (a1)), (.arr false (a2z) (.r3 (a2)))])]).bind fun r1 =>
 cond (!bit (nth r1 0))
 (some [(.arr true (true) (.ints .i64 ([]))), (.bool (false))])
 (cond (!decide (nI (List.length (D.ints (nth r0 0))) = nI (List.length a2)))
 (some [(.arr true (true) (.ints .i64 ([]))), (.bool (false))])
 (some [(.arr true (D.nil (nth r0 0)) (.ints .i64 (D.ints (nth r0 0)))), (.bool (true))]))) := by kernel_rfl
theorem qfj (k : Nat) (a0 a1 : Int) (a2z : Bool) (a2 : List (Int × Int × Int)) (a3 a4 a5 : Int) (a6z : Bool) (a6 : List Int) : go (k + 1) impl_TotalWithin [(.agg [(.int .i64 (a0)), (.int .i64 (a1)), (.arr false (a2z) (.r3 (a2))), (.int .i64 (a3)), (.int .i64 (a4)), (.int .i64 (a5)), (.arr false (a6z) (.ints .i64 (a6)))])] =
 (go k impl_ReadFrame [(.agg [(.int .i64 (a0)), (.int .i64 (a1)), (.arr false (a2z) (.r3 (a2))), (.int .i64 (a3)), (.int .i64 (a4)), (.int .i64 (a5)), (.arr false (a6z) (.ints .i64 (a6)))])]).bind fun r0 =>
 cond (bit (nth r0 1))
 ((go k impl_within [(.int .i64 (a3)), (.int .i64 ((-1000000000000000 : Int))), (.int .i64 ((1000000000000000 : Int)))]).bind fun r1 =>
 cond (bit (nth r1 0))
 ((go k impl_sum [(.arr false (D.nil (nth r0 0)) (.ints .i64 (D.ints (nth r0 0))))]).bind fun r2 =>
 (go k impl_absolute [(.int .i64 (IntKind.wrap .i64 (D.toInt (nth r2 0) - a3)))]).bind fun r3 =>
 some [(.bool (decide (D.toInt (nth r3 0) ≤ IntKind.wrap .i64 (Int.tdiv (IntKind.wrap .i64 (nI (List.length (D.ints (nth r0 0))) * a5)) (2 : Int)))))])
 (some [(.bool (false))]))
 (some [(.bool (false))]) := by kernel_rfl
def qmg (x0 x1 x2 x3 x4 x5 : Int) (z6 : Bool) (l7 : List Int) (z8 : Bool) (l9 : List Int) : St := ⟨fill 82 [(0, (.sl 0 none)), (1, (.int .i64 (x0))), (6, (.sl 1 none)), (7, (.int .i64 (x1))), (8, (.int .i64 (x2))), (10, (.int .i64 (x3))), (65, (.int .i64 (x4))), (66, (.int .i64 (x5)))], [], [(.arr false (z6) (.ints .i64 (l7))), (.arr true (z8) (.ints .i64 (l9)))]⟩
def qmh (x0 x1 x2 : Int) (z3 : Bool) (l4 : List Int) (z5 : Bool) (l6 : List Int) : St := ⟨fill 82 [(0, (.sl 0 none)), (1, (.int .i64 (x0))), (6, (.sl 1 none)), (7, (.int .i64 (x1))), (8, (.int .i64 (x2)))], [], [(.arr false (z3) (.ints .i64 (l4))), (.arr true (z5) (.ints .i64 (l6)))]⟩
theorem qe5 (k : Nat) (az : Bool) (a : List Int) (b : Int) : go (k + 1) impl_DecompressList [(.arr false (az) (.ints .i64 (a))), (.int .i64 (b))] =
 (go k impl_isQuantum [(.int .i64 (b))]).bind fun r0 =>
 cond (!bit (nth r0 0))
 (some [(.arr true (true) (.ints .i64 ([]))), (.bool (false))])
 (cond (!decide (Int.tmod (nI (List.length a)) (2 : Int) = (0 : Int)))
 (some [(.arr true (true) (.ints .i64 ([]))), (.bool (false))])
 (cond (decide ((2000 : Int) < nI (List.length a)))
 (some [(.arr true (true) (.ints .i64 ([]))), (.bool (false))])
 (lp k impl_DecompressList [] [] 6 k (qmh b (0 : Int) (0 : Int) az a false ([]))))) := by kernel_rfl
theorem qim (k n : Nat) (fu : List (Nat × Nat)) (x0 x1 x2 x3 x4 x5 : Int) (z6 : Bool) (l7 : List Int) (z8 : Bool) (l9 : List Int) : lp k impl_DecompressList [] fu 12 (n + 1) (qmg x0 x1 x2 x3 x4 x5 z6 l7 z8 l9) =
 cond (decide (x5 < x4))
 ((go k impl_isMass [(.int .i64 (IntKind.wrap .i64 (x1 + x3)))]).bind fun r0 =>
 cond (!bit (nth r0 0))
 (some [(.arr true (true) (.ints .i64 ([]))), (.bool (false))])
 (cond (decide (List.length (l9 ++ [IntKind.wrap .i64 (x0 * IntKind.wrap .i64 (x1 + x3))]) ≤ bigLen))
 (lp k impl_DecompressList [] fu 12 n (qmg x0 (IntKind.wrap .i64 (x1 + x3)) x2 x3 x4 (IntKind.wrap .i64 (x5 + (1 : Int))) z6 l7 (z8 && decide (List.length (l9 ++ [IntKind.wrap .i64 (x0 * IntKind.wrap .i64 (x1 + x3))]) = 0)) (l9 ++ [IntKind.wrap .i64 (x0 * IntKind.wrap .i64 (x1 + x3))])))
 (none)))
 (lp k impl_DecompressList [] fu 6 (fuelOf fu 6) (qmh x0 x1 (IntKind.wrap .i64 (x2 + (2 : Int))) z6 l7 z8 l9)) := by kernel_rfl
theorem qin (k n : Nat) (fu : List (Nat × Nat)) (x0 x1 x2 : Int) (z3 : Bool) (l4 : List Int) (z5 : Bool) (l6 : List Int) : lp k impl_DecompressList [] fu 6 (n + 1) (qmh x0 x1 x2 z3 l4 z5 l6) =
 cond (decide (x2 < nI (List.length l4)))
 (cond (decide ((0 : Int) ≤ x2) && decide (x2 < nI (List.length l4)))
 (cond (decide ((0 : Int) ≤ IntKind.wrap .i64 (x2 + (1 : Int))) && decide (IntKind.wrap .i64 (x2 + (1 : Int)) < nI (List.length l4)))
 ((go k impl_within [(.int .i64 (List.getD l4 (Int.toNat x2) (0 : Int))), (.int .i64 ((1 : Int))), (.int .i64 (IntKind.wrap .i64 ((1000 : Int) - nI (List.length l6))))]).bind fun r0 =>
 cond (!bit (nth r0 0))
 (some [(.arr true (true) (.ints .i64 ([]))), (.bool (false))])
 (cond (decide ((0 : Int) < x2))
 (cond (decide ((0 : Int) ≤ IntKind.wrap .i64 (x2 - (1 : Int))) && decide (IntKind.wrap .i64 (x2 - (1 : Int)) < nI (List.length l4)))
 (cond (decide (List.getD l4 (Int.toNat (IntKind.wrap .i64 (x2 + (1 : Int)))) (0 : Int) = List.getD l4 (Int.toNat (IntKind.wrap .i64 (x2 - (1 : Int)))) (0 : Int)))
 (some [(.arr true (true) (.ints .i64 ([]))), (.bool (false))])
 ((go k impl_within [(.int .i64 (List.getD l4 (Int.toNat (IntKind.wrap .i64 (x2 + (1 : Int)))) (0 : Int))), (.int .i64 ((-10000000 : Int))), (.int .i64 ((10000000 : Int)))]).bind fun r1 =>
 cond (!bit (nth r1 0))
 (some [(.arr true (true) (.ints .i64 ([]))), (.bool (false))])
 (lp k impl_DecompressList [] ((6, n) :: fu) 12 k (qmg x0 x1 x2 (List.getD l4 (Int.toNat (IntKind.wrap .i64 (x2 + (1 : Int)))) (0 : Int)) (List.getD l4 (Int.toNat x2) (0 : Int)) (0 : Int) z3 l4 z5 l6))))
 (none))
 ((go k impl_within [(.int .i64 (List.getD l4 (Int.toNat (IntKind.wrap .i64 (x2 + (1 : Int)))) (0 : Int))), (.int .i64 ((-10000000 : Int))), (.int .i64 ((10000000 : Int)))]).bind fun r2 =>
 cond (!bit (nth r2 0))
 (some [(.arr true (true) (.ints .i64 ([]))), (.bool (false))])
 (lp k impl_DecompressList [] ((6, n) :: fu) 12 k (qmg x0 x1 x2 (List.getD l4 (Int.toNat (IntKind.wrap .i64 (x2 + (1 : Int)))) (0 : Int)) (List.getD l4 (Int.toNat x2) (0 : Int)) (0 : Int) z3 l4 z5 l6)))))
 (none))
 (none))
 (some [(.arr true (z5) (.ints .i64 (l6))), (.bool (true))]) := by kernel_rfl
theorem qgh (k : Nat) (a0 : Int) (a1z : Bool) (a1 : List (Int × Int × Int)) (a2z : Bool) (a2 : List Int) (a3z : Bool) (a3 : List Int) (a4z : Bool) (a4 : List Int) (b0 b1 b2 b3 b4 b5 b6 b7 b8 c : Int) : go (k + 1) spec_RunMacro [(.agg [(.int .i64 (a0)), (.arr false (a1z) (.r3 (a1))), (.arr false (a2z) (.ints .i64 (a2))), (.arr false (a3z) (.ints .i64 (a3))), (.arr false (a4z) (.ints .i64 (a4)))]), (.agg [(.int .i64 (b0)), (.int .i64 (b1)), (.int .i64 (b2)), (.int .i64 (b3)), (.int .i64 (b4)), (.int .i64 (b5)), (.int .i64 (b6)), (.int .i64 (b7)), (.int .i64 (b8))]), (.int .i64 (c))] =
 (go k spec_StateOk [(.agg [(.int .i64 (a0)), (.arr false (a1z) (.r3 (a1))), (.arr false (a2z) (.ints .i64 (a2))), (.arr false (a3z) (.ints .i64 (a3))), (.arr false (a4z) (.ints .i64 (a4)))])]).bind fun r0 =>
 cond (!bit (nth r0 0))
 ((go k spec_l07Copy [(.agg [(.int .i64 (a0)), (.arr false (a1z) (.r3 (a1))), (.arr false (a2z) (.ints .i64 (a2))), (.arr false (a3z) (.ints .i64 (a3))), (.arr false (a4z) (.ints .i64 (a4)))])]).bind fun r1 =>
 some [(.agg [(.int .i64 (D.toInt (D.cell 0 (nth r1 0)))), (.arr true (D.nil (D.cell 1 (nth r1 0))) (.r3 (D.r3 (D.cell 1 (nth r1 0))))), (.arr true (D.nil (D.cell 2 (nth r1 0))) (.ints .i64 (D.ints (D.cell 2 (nth r1 0))))), (.arr true (D.nil (D.cell 3 (nth r1 0))) (.ints .i64 (D.ints (D.cell 3 (nth r1 0))))), (.arr true (D.nil (D.cell 4 (nth r1 0))) (.ints .i64 (D.ints (D.cell 4 (nth r1 0)))))]), (.agg [(.int .i64 (0 : Int)), (.int .i64 (0 : Int)), (.int .i64 (0 : Int)), (.int .i64 (0 : Int))])])
 ((go k spec_PlanOk [(.agg [(.int .i64 (b0)), (.int .i64 (b1)), (.int .i64 (b2)), (.int .i64 (b3)), (.int .i64 (b4)), (.int .i64 (b5)), (.int .i64 (b6)), (.int .i64 (b7)), (.int .i64 (b8))])]).bind fun r2 =>
 cond (!bit (nth r2 0))
 ((go k spec_l07Copy [(.agg [(.int .i64 (a0)), (.arr false (a1z) (.r3 (a1))), (.arr false (a2z) (.ints .i64 (a2))), (.arr false (a3z) (.ints .i64 (a3))), (.arr false (a4z) (.ints .i64 (a4)))])]).bind fun r3 =>
 some [(.agg [(.int .i64 (D.toInt (D.cell 0 (nth r3 0)))), (.arr true (D.nil (D.cell 1 (nth r3 0))) (.r3 (D.r3 (D.cell 1 (nth r3 0))))), (.arr true (D.nil (D.cell 2 (nth r3 0))) (.ints .i64 (D.ints (D.cell 2 (nth r3 0))))), (.arr true (D.nil (D.cell 3 (nth r3 0))) (.ints .i64 (D.ints (D.cell 3 (nth r3 0))))), (.arr true (D.nil (D.cell 4 (nth r3 0))) (.ints .i64 (D.ints (D.cell 4 (nth r3 0)))))]), (.agg [(.int .i64 (0 : Int)), (.int .i64 (0 : Int)), (.int .i64 (0 : Int)), (.int .i64 (0 : Int))])])
 ((go k spec_l01In [(.int .i64 (c)), (.int .i64 (0 : Int)), (.int .i64 ((1000000 : Int)))]).bind fun r4 =>
 cond (!bit (nth r4 0))
 ((go k spec_l07Copy [(.agg [(.int .i64 (a0)), (.arr false (a1z) (.r3 (a1))), (.arr false (a2z) (.ints .i64 (a2))), (.arr false (a3z) (.ints .i64 (a3))), (.arr false (a4z) (.ints .i64 (a4)))])]).bind fun r5 =>
 some [(.agg [(.int .i64 (D.toInt (D.cell 0 (nth r5 0)))), (.arr true (D.nil (D.cell 1 (nth r5 0))) (.r3 (D.r3 (D.cell 1 (nth r5 0))))), (.arr true (D.nil (D.cell 2 (nth r5 0))) (.ints .i64 (D.ints (D.cell 2 (nth r5 0))))), (.arr true (D.nil (D.cell 3 (nth r5 0))) (.ints .i64 (D.ints (D.cell 3 (nth r5 0))))), (.arr true (D.nil (D.cell 4 (nth r5 0))) (.ints .i64 (D.ints (D.cell 4 (nth r5 0)))))]), (.agg [(.int .i64 (0 : Int)), (.int .i64 (0 : Int)), (.int .i64 (0 : Int)), (.int .i64 (0 : Int))])])
 ((go k spec_l18Macro [(.agg [(.int .i64 (a0)), (.arr false (a1z) (.r3 (a1))), (.arr false (a2z) (.ints .i64 (a2))), (.arr false (a3z) (.ints .i64 (a3))), (.arr false (a4z) (.ints .i64 (a4)))]), (.agg [(.int .i64 (b0)), (.int .i64 (b1)), (.int .i64 (b2)), (.int .i64 (b3)), (.int .i64 (b4)), (.int .i64 (b5)), (.int .i64 (b6)), (.int .i64 (b7)), (.int .i64 (b8))]), (.int .i64 (c))]).bind fun r6 =>
 some [(.agg [(.int .i64 (D.toInt (D.cell 0 (nth r6 0)))), (.arr true (D.nil (D.cell 1 (nth r6 0))) (.r3 (D.r3 (D.cell 1 (nth r6 0))))), (.arr true (D.nil (D.cell 2 (nth r6 0))) (.ints .i64 (D.ints (D.cell 2 (nth r6 0))))), (.arr true (D.nil (D.cell 3 (nth r6 0))) (.ints .i64 (D.ints (D.cell 3 (nth r6 0))))), (.arr true (D.nil (D.cell 4 (nth r6 0))) (.ints .i64 (D.ints (D.cell 4 (nth r6 0)))))]), (.agg [(.int .i64 (D.toInt (D.cell 0 (nth r6 1)))), (.int .i64 (D.toInt (D.cell 1 (nth r6 1)))), (.int .i64 (D.toInt (D.cell 2 (nth r6 1)))), (.int .i64 (D.toInt (D.cell 3 (nth r6 1))))])]))) := by kernel_rfl

end Go.Proofs.Ytcaapedadpnjoaa
end
section
namespace Go.Proofs.Ytcaapedadpnjoaa
open Go.Ev
theorem qgd (k : Nat) (a0 a1 a2 a3 b0 b1 b2 b3 : Int) : go (k + 1) spec_LedgerAdd [(.agg [(.int .i64 (a0)), (.int .i64 (a1)), (.int .i64 (a2)), (.int .i64 (a3))]), (.agg [(.int .i64 (b0)), (.int .i64 (b1)), (.int .i64 (b2)), (.int .i64 (b3))])] =
 some [(.agg [(.int .i64 (IntKind.wrap .i64 (a0 + b0))), (.int .i64 (IntKind.wrap .i64 (a1 + b1))), (.int .i64 (IntKind.wrap .i64 (a2 + b2))), (.int .i64 (IntKind.wrap .i64 (a3 + b3)))])] := by kernel_rfl
theorem qfl (k : Nat) (a0 : Int) (a1z : Bool) (a1 : List (Int × Int × Int)) (a2z : Bool) (a2 : List Int) (a3z : Bool) (a3 : List Int) (a4z : Bool) (a4 : List Int) (b c : Int) : go (k + 1) impl_WriteFrame [(.agg [(.int .i64 (a0)), (.arr false (a1z) (.r3 (a1))), (.arr false (a2z) (.ints .i64 (a2))), (.arr false (a3z) (.ints .i64 (a3))), (.arr false (a4z) (.ints .i64 (a4)))]), (.int .i64 (b)), (.int .i64 (c))] =
 (go k impl_StateOk [(.agg [(.int .i64 (a0)), (.arr false (a1z) (.r3 (a1))), (.arr false (a2z) (.ints .i64 (a2))), (.arr false (a3z) (.ints .i64 (a3))), (.arr false (a4z) (.ints .i64 (a4)))])]).bind fun r0 =>
 cond (!bit (nth r0 0))
 (some [(.agg [(.int .i64 (0 : Int)), (.int .i64 (0 : Int)), (.arr true (true) (.r3 ([]))), (.int .i64 (0 : Int)), (.int .i64 (0 : Int)), (.int .i64 (0 : Int)), (.arr true (true) (.ints .i64 ([])))]), (.bool (false))])
 (cond (decide (b < (0 : Int)))
 (some [(.agg [(.int .i64 (0 : Int)), (.int .i64 (0 : Int)), (.arr true (true) (.r3 ([]))), (.int .i64 (0 : Int)), (.int .i64 (0 : Int)), (.int .i64 (0 : Int)), (.arr true (true) (.ints .i64 ([])))]), (.bool (false))])
 ((go k impl_isQuantum [(.int .i64 (c))]).bind fun r1 =>
 cond (!bit (nth r1 0))
 (some [(.agg [(.int .i64 (0 : Int)), (.int .i64 (0 : Int)), (.arr true (true) (.r3 ([]))), (.int .i64 (0 : Int)), (.int .i64 (0 : Int)), (.int .i64 (0 : Int)), (.arr true (true) (.ints .i64 ([])))]), (.bool (false))])
 ((go k impl_CompressList [(.arr false (a2z) (.ints .i64 (a2))), (.int .i64 (c))]).bind fun r2 =>
 (go k impl_copyMesh [(.agg [(.int .i64 (a0)), (.arr false (a1z) (.r3 (a1)))])]).bind fun r3 =>
 (go k impl_sum [(.arr false (a2z) (.ints .i64 (a2)))]).bind fun r4 =>
 (go k impl_sum [(.arr false (a3z) (.ints .i64 (a3)))]).bind fun r5 =>
 some [(.agg [(.int .i64 (b)), (.int .i64 (D.toInt (D.cell 0 (nth r3 0)))), (.arr true (D.nil (D.cell 1 (nth r3 0))) (.r3 (D.r3 (D.cell 1 (nth r3 0))))), (.int .i64 (D.toInt (nth r4 0))), (.int .i64 (D.toInt (nth r5 0))), (.int .i64 (c)), (.arr true (D.nil (nth r2 0)) (.ints .i64 (D.ints (nth r2 0))))]), (.bool (true))]))) := by kernel_rfl
def qmf (x0 x1 x2 x3 : Int) (z4 : Bool) (l5 : List Int) (z6 : Bool) (l7 : List Int) : St := ⟨fill 64 [(1, (.int .i64 (x0))), (6, (.sl 0 none)), (7, (.int .i64 (x1))), (21, (.sl 1 none)), (22, (.int .i64 (x2))), (23, (.int .i64 (x3)))], [], [(.arr true (z4) (.ints .i64 (l5))), (.arr false (z6) (.ints .i64 (l7)))]⟩
theorem qe4 (k : Nat) (az : Bool) (a : List Int) (b : Int) : go (k + 1) impl_CompressList [(.arr false (az) (.ints .i64 (a))), (.int .i64 (b))] =
 (go k impl_isQuantum [(.int .i64 (b))]).bind fun r0 =>
 cond (!bit (nth r0 0))
 (some [(.arr true (true) (.ints .i64 ([]))), (.bool (false))])
 (cond (decide ((1000 : Int) < nI (List.length a)))
 (some [(.arr true (true) (.ints .i64 ([]))), (.bool (false))])
 (lp k impl_CompressList [] [] 6 k (qmf b (0 : Int) (nI (List.length a)) (0 : Int) false ([]) az a))) := by kernel_rfl
theorem qil (k n : Nat) (fu : List (Nat × Nat)) (x0 x1 x2 x3 : Int) (z4 : Bool) (l5 : List Int) (z6 : Bool) (l7 : List Int) : lp k impl_CompressList [] fu 6 (n + 1) (qmf x0 x1 x2 x3 z4 l5 z6 l7) =
 cond (decide (x3 < x2))
 (cond (decide ((0 : Int) ≤ x3) && decide (x3 < nI (List.length l7)))
 ((go k impl_isMass [(.int .i64 (List.getD l7 (Int.toNat x3) (0 : Int)))]).bind fun r0 =>
 cond (!bit (nth r0 0))
 (some [(.arr true (true) (.ints .i64 ([]))), (.bool (false))])
 ((go k impl_Quantize [(.int .i64 (List.getD l7 (Int.toNat x3) (0 : Int))), (.int .i64 (x0))]).bind fun r1 =>
 cond (decide ((0 : Int) < nI (List.length l5)))
 (cond (decide ((0 : Int) ≤ IntKind.wrap .i64 (nI (List.length l5) - (1 : Int))) && decide (IntKind.wrap .i64 (nI (List.length l5) - (1 : Int)) < nI (List.length l5)))
 (cond (decide (List.getD l5 (Int.toNat (IntKind.wrap .i64 (nI (List.length l5) - (1 : Int)))) (0 : Int) = IntKind.wrap .i64 (D.toInt (nth r1 0) - x1)))
 (cond (decide ((0 : Int) ≤ IntKind.wrap .i64 (nI (List.length l5) - (2 : Int))) && decide (IntKind.wrap .i64 (nI (List.length l5) - (2 : Int)) < nI (List.length l5)))
 (cond (decide ((0 : Int) ≤ IntKind.wrap .i64 (nI (List.length l5) - (2 : Int))) && decide (IntKind.wrap .i64 (nI (List.length l5) - (2 : Int)) < nI (List.length l5)))
 (lp k impl_CompressList [] fu 6 n (qmf x0 (D.toInt (nth r1 0)) x2 (IntKind.wrap .i64 (x3 + (1 : Int))) z4 (List.set l5 (Int.toNat (IntKind.wrap .i64 (nI (List.length l5) - (2 : Int)))) (IntKind.wrap .i64 (List.getD l5 (Int.toNat (IntKind.wrap .i64 (nI (List.length l5) - (2 : Int)))) (0 : Int) + (1 : Int)))) z6 l7))
 (none))
 (none))
 (cond (decide (List.length (l5 ++ [(1 : Int), IntKind.wrap .i64 (D.toInt (nth r1 0) - x1)]) ≤ bigLen))
 (lp k impl_CompressList [] fu 6 n (qmf x0 (D.toInt (nth r1 0)) x2 (IntKind.wrap .i64 (x3 + (1 : Int))) (z4 && decide (List.length (l5 ++ [(1 : Int), IntKind.wrap .i64 (D.toInt (nth r1 0) - x1)]) = 0)) (l5 ++ [(1 : Int), IntKind.wrap .i64 (D.toInt (nth r1 0) - x1)]) z6 l7))
 (none)))
 (none))
 (cond (decide (List.length (l5 ++ [(1 : Int), IntKind.wrap .i64 (D.toInt (nth r1 0) - x1)]) ≤ bigLen))
 (lp k impl_CompressList [] fu 6 n (qmf x0 (D.toInt (nth r1 0)) x2 (IntKind.wrap .i64 (x3 + (1 : Int))) (z4 && decide (List.length (l5 ++ [(1 : Int), IntKind.wrap .i64 (D.toInt (nth r1 0) - x1)]) = 0)) (l5 ++ [(1 : Int), IntKind.wrap .i64 (D.toInt (nth r1 0) - x1)]) z6 l7))
 (none))))
 (none))
 (some [(.arr true (z4) (.ints .i64 (l5))), (.bool (true))]) := by kernel_rfl
theorem qfd (k : Nat) (a b : Int) : go (k + 1) impl_Quantize [(.int .i64 (a)), (.int .i64 (b))] =
 (go k impl_isQuantum [(.int .i64 (b))]).bind fun r0 =>
 cond (!bit (nth r0 0))
 (some [(.int .i64 (0 : Int))])
 ((go k impl_isMass [(.int .i64 (a))]).bind fun r1 =>
 cond (!bit (nth r1 0))
 (some [(.int .i64 (0 : Int))])
 ((go k impl_DivNear [(.int .i64 (a)), (.int .i64 (b))]).bind fun r2 =>
 some [(.int .i64 (D.toInt (nth r2 0)))])) := by kernel_rfl
theorem qe7 (k : Nat) (a b : Int) : go (k + 1) impl_DivNear [(.int .i64 (a)), (.int .i64 (b))] =
 (go k impl_within [(.int .i64 (b)), (.int .i64 ((1 : Int))), (.int .i64 ((2147483647 : Int)))]).bind fun r0 =>
 cond (!bit (nth r0 0))
 (some [(.int .i64 (0 : Int))])
 ((go k impl_within [(.int .i64 (a)), (.int .i64 ((-1000000000000000 : Int))), (.int .i64 ((1000000000000000 : Int)))]).bind fun r1 =>
 cond (!bit (nth r1 0))
 (some [(.int .i64 (0 : Int))])
 ((go k impl_DivFloor [(.int .i64 (IntKind.wrap .i64 (IntKind.wrap .i64 ((2 : Int) * a) + b))), (.int .i64 (IntKind.wrap .i64 ((2 : Int) * b)))]).bind fun r2 =>
 some [(.int .i64 (D.toInt (nth r2 0)))])) := by kernel_rfl
theorem qe6 (k : Nat) (a b : Int) : go (k + 1) impl_DivFloor [(.int .i64 (a)), (.int .i64 (b))] =
 cond (decide (b ≤ (0 : Int)))
 (some [(.int .i64 (0 : Int))])
 (cond (!decide (b = (0 : Int)))
 (cond (!decide (b = (0 : Int)))
 (cond (decide (Int.tmod a b < (0 : Int)))
 (some [(.int .i64 (IntKind.wrap .i64 (IntKind.wrap .i64 (Int.tdiv a b) - (1 : Int))))])
 (some [(.int .i64 (IntKind.wrap .i64 (Int.tdiv a b)))]))
 (none))
 (none)) := by kernel_rfl
theorem qfs (k : Nat) (a : Int) : go (k + 1) impl_isQuantum [(.int .i64 (a))] =
 (go k impl_within [(.int .i64 (a)), (.int .i64 ((1 : Int))), (.int .i64 ((1000000 : Int)))]).bind fun r0 =>
 some [(.bool (bit (nth r0 0)))] := by kernel_rfl
theorem qfr (k : Nat) (a : Int) : go (k + 1) impl_isMass [(.int .i64 (a))] =
 (go k impl_within [(.int .i64 (a)), (.int .i64 (0 : Int)), (.int .i64 ((10000000 : Int)))]).bind fun r0 =>
 some [(.bool (bit (nth r0 0)))] := by kernel_rfl

end Go.Proofs.Ytcaapedadpnjoaa
end
section
namespace Go.Proofs.Ytcaapedadpnjoaa
open Go.Ev
def qmv (x0 : Int) (z1 : Bool) (l2 : List (Int × Int × Int)) (z3 : Bool) (l4 : List Int) (z5 : Bool) (l6 : List Int) (z7 : Bool) (l8 : List Int) (x9 : Int) : St := ⟨fill 84 [(1, (.ptr 4 (0) (0))), (3, (.int .i64 (x0)))], [], [(.arr false (z1) (.r3 (l2))), (.arr false (z3) (.ints .i64 (l4))), (.arr false (z5) (.ints .i64 (l6))), (.arr false (z7) (.ints .i64 (l8))), (.box true [(.int .i64 (x9)), (.sl 0 none), (.sl 1 none), (.sl 2 none), (.sl 3 none)])]⟩
def qmw (x0 : Int) (z1 : Bool) (l2 : List (Int × Int × Int)) (z3 : Bool) (l4 : List Int) (z5 : Bool) (l6 : List Int) (z7 : Bool) (l8 : List Int) (x9 : Int) : St := ⟨fill 84 [(1, (.ptr 4 (0) (0))), (4, (.int .i64 (x0)))], [], [(.arr false (z1) (.r3 (l2))), (.arr false (z3) (.ints .i64 (l4))), (.arr false (z5) (.ints .i64 (l6))), (.arr false (z7) (.ints .i64 (l8))), (.box true [(.int .i64 (x9)), (.sl 0 none), (.sl 1 none), (.sl 2 none), (.sl 3 none)])]⟩
theorem qgl (k : Nat) (a0 : Int) (a1z : Bool) (a1 : List (Int × Int × Int)) (a2z : Bool) (a2 : List Int) (a3z : Bool) (a3 : List Int) (a4z : Bool) (a4 : List Int) : go (k + 1) spec_StateOk [(.agg [(.int .i64 (a0)), (.arr false (a1z) (.r3 (a1))), (.arr false (a2z) (.ints .i64 (a2))), (.arr false (a3z) (.ints .i64 (a3))), (.arr false (a4z) (.ints .i64 (a4)))])] =
 (go k spec_IsBalanced [(.agg [(.int .i64 (a0)), (.arr false (a1z) (.r3 (a1)))])]).bind fun r0 =>
 cond (!bit (nth r0 0))
 (some [(.bool (false))])
 (cond (!decide (nI (List.length a2) = nI (List.length a1)))
 (some [(.bool (false))])
 (cond (!decide (nI (List.length a3) = nI (List.length a2)))
 (some [(.bool (false))])
 (cond (!decide (nI (List.length a4) = a0))
 (some [(.bool (false))])
 (lp k spec_StateOk [] [] 4 k (qmv (0 : Int) a1z a1 a2z a2 a3z a3 a4z a4 a0))))) := by kernel_rfl
theorem qi1 (k n : Nat) (fu : List (Nat × Nat)) (x0 : Int) (z1 : Bool) (l2 : List (Int × Int × Int)) (z3 : Bool) (l4 : List Int) (z5 : Bool) (l6 : List Int) (z7 : Bool) (l8 : List Int) (x9 : Int) : lp k spec_StateOk [] fu 4 (n + 1) (qmv x0 z1 l2 z3 l4 z5 l6 z7 l8 x9) =
 cond (decide (x0 < nI (List.length l4)))
 (cond (decide ((0 : Int) ≤ x0) && decide (x0 < nI (List.length l4)))
 ((go k spec_l01In [(.int .i64 (List.getD l4 (Int.toNat x0) (0 : Int))), (.int .i64 (0 : Int)), (.int .i64 ((10000000 : Int)))]).bind fun r0 =>
 cond (!bit (nth r0 0))
 (some [(.bool (false))])
 (cond (decide ((0 : Int) ≤ x0) && decide (x0 < nI (List.length l6)))
 (cond (decide ((0 : Int) ≤ x0) && decide (x0 < nI (List.length l4)))
 ((go k spec_l01In [(.int .i64 (List.getD l6 (Int.toNat x0) (0 : Int))), (.int .i64 (0 : Int)), (.int .i64 (IntKind.wrap .i64 ((1000 : Int) * List.getD l4 (Int.toNat x0) (0 : Int))))]).bind fun r1 =>
 cond (!bit (nth r1 0))
 (some [(.bool (false))])
 (lp k spec_StateOk [] fu 4 n (qmv (IntKind.wrap .i64 (x0 + (1 : Int))) z1 l2 z3 l4 z5 l6 z7 l8 x9)))
 (none))
 (none)))
 (none))
 (lp k spec_StateOk [] fu 9 k (qmw (0 : Int) z1 l2 z3 l4 z5 l6 z7 l8 x9)) := by kernel_rfl
theorem qi2 (k n : Nat) (fu : List (Nat × Nat)) (x0 : Int) (z1 : Bool) (l2 : List (Int × Int × Int)) (z3 : Bool) (l4 : List Int) (z5 : Bool) (l6 : List Int) (z7 : Bool) (l8 : List Int) (x9 : Int) : lp k spec_StateOk [] fu 9 (n + 1) (qmw x0 z1 l2 z3 l4 z5 l6 z7 l8 x9) =
 cond (decide (x0 < nI (List.length l8)))
 (cond (decide ((0 : Int) ≤ x0) && decide (x0 < nI (List.length l8)))
 ((go k spec_l01In [(.int .i64 (List.getD l8 (Int.toNat x0) (0 : Int))), (.int .i64 (0 : Int)), (.int .i64 ((1000000 : Int)))]).bind fun r0 =>
 cond (!bit (nth r0 0))
 (some [(.bool (false))])
 (lp k spec_StateOk [] fu 9 n (qmw (IntKind.wrap .i64 (x0 + (1 : Int))) z1 l2 z3 l4 z5 l6 z7 l8 x9)))
 (none))
 ((go k spec_l07Sum [(.arr false (z3) (.ints .i64 (l4)))]).bind fun r1 =>
 some [(.bool (decide (D.toInt (nth r1 0) ≤ (10000000 : Int))))]) := by kernel_rfl
theorem qfg (k : Nat) (a0 : Int) (a1z : Bool) (a1 : List (Int × Int × Int)) (a2z : Bool) (a2 : List Int) (a3z : Bool) (a3 : List Int) (a4z : Bool) (a4 : List Int) : go (k + 1) impl_StateOk [(.agg [(.int .i64 (a0)), (.arr false (a1z) (.r3 (a1))), (.arr false (a2z) (.ints .i64 (a2))), (.arr false (a3z) (.ints .i64 (a3))), (.arr false (a4z) (.ints .i64 (a4)))])] =
 (go k impl_IsBalanced [(.agg [(.int .i64 (a0)), (.arr false (a1z) (.r3 (a1)))])]).bind fun r0 =>
 cond (bit (nth r0 0))
 ((go k impl_State_hasCells [(.agg [(.int .i64 (a0)), (.arr false (a1z) (.r3 (a1))), (.arr false (a2z) (.ints .i64 (a2))), (.arr false (a3z) (.ints .i64 (a3))), (.arr false (a4z) (.ints .i64 (a4)))])]).bind fun r1 =>
 some [(.bool (bit (nth r1 0)))])
 (some [(.bool (false))]) := by kernel_rfl
def qml (x0 x1 : Int) (z2 : Bool) (l3 : List (Int × Int × Int)) (z4 : Bool) (l5 : List Int) (z6 : Bool) (l7 : List Int) (z8 : Bool) (l9 : List Int) (x10 : Int) : St := ⟨fill 63 [(1, (.ptr 4 (0) (0))), (37, (.sl 1 none)), (38, (.int .i64 (x0))), (39, (.int .i64 (x1)))], [], [(.arr false (z2) (.r3 (l3))), (.arr false (z4) (.ints .i64 (l5))), (.arr false (z6) (.ints .i64 (l7))), (.arr false (z8) (.ints .i64 (l9))), (.box true [(.int .i64 (x10)), (.sl 0 none), (.sl 1 none), (.sl 2 none), (.sl 3 none)])]⟩
theorem qfh (k : Nat) (a0 : Int) (a1z : Bool) (a1 : List (Int × Int × Int)) (a2z : Bool) (a2 : List Int) (a3z : Bool) (a3 : List Int) (a4z : Bool) (a4 : List Int) : go (k + 1) impl_State_hasCells [(.agg [(.int .i64 (a0)), (.arr false (a1z) (.r3 (a1))), (.arr false (a2z) (.ints .i64 (a2))), (.arr false (a3z) (.ints .i64 (a3))), (.arr false (a4z) (.ints .i64 (a4)))])] =
 cond (!decide (nI (List.length a2) = nI (List.length a1)))
 (some [(.bool (false))])
 (cond (!decide (nI (List.length a3) = nI (List.length a1)))
 (some [(.bool (false))])
 (cond (!decide (nI (List.length a4) = a0))
 (some [(.bool (false))])
 ((go k slices_ContainsFunc_int_int [(.arr false (a4z) (.ints .i64 (a4))), (.fn impl_State_hasCells_1 [])]).bind fun r0 =>
 cond (bit (nth r0 0))
 (some [(.bool (false))])
 (lp k impl_State_hasCells [] [] 5 k (qml (nI (List.length a2)) (0 : Int) a1z a1 a2z a2 a3z a3 a4z a4 a0))))) := by kernel_rfl
theorem qir (k n : Nat) (fu : List (Nat × Nat)) (x0 x1 : Int) (z2 : Bool) (l3 : List (Int × Int × Int)) (z4 : Bool) (l5 : List Int) (z6 : Bool) (l7 : List Int) (z8 : Bool) (l9 : List Int) (x10 : Int) : lp k impl_State_hasCells [] fu 5 (n + 1) (qml x0 x1 z2 l3 z4 l5 z6 l7 z8 l9 x10) =
 cond (decide (x1 < x0))
 (cond (decide ((0 : Int) ≤ x1) && decide (x1 < nI (List.length l5)))
 ((go k impl_within [(.int .i64 (List.getD l5 (Int.toNat x1) (0 : Int))), (.int .i64 (0 : Int)), (.int .i64 ((10000000 : Int)))]).bind fun r0 =>
 cond (!bit (nth r0 0))
 (some [(.bool (false))])
 (cond (decide ((0 : Int) ≤ x1) && decide (x1 < nI (List.length l7)))
 ((go k impl_within [(.int .i64 (List.getD l7 (Int.toNat x1) (0 : Int))), (.int .i64 (0 : Int)), (.int .i64 (IntKind.wrap .i64 ((1000 : Int) * List.getD l5 (Int.toNat x1) (0 : Int))))]).bind fun r1 =>
 cond (!bit (nth r1 0))
 (some [(.bool (false))])
 (lp k impl_State_hasCells [] fu 5 n (qml x0 (IntKind.wrap .i64 (x1 + (1 : Int))) z2 l3 z4 l5 z6 l7 z8 l9 x10)))
 (none)))
 (none))
 ((go k impl_sum [(.arr false (z4) (.ints .i64 (l5)))]).bind fun r2 =>
 some [(.bool (decide (D.toInt (nth r2 0) ≤ (10000000 : Int))))]) := by kernel_rfl
theorem qfi (k : Nat) (a : Int) : go (k + 1) impl_State_hasCells_1 [(.int .i64 (a))] =
 (go k impl_isBed [(.int .i64 (a))]).bind fun r0 =>
 some [(.bool (!bit (nth r0 0)))] := by kernel_rfl
theorem qfp (k : Nat) (a : Int) : go (k + 1) impl_isBed [(.int .i64 (a))] =
 (go k impl_within [(.int .i64 (a)), (.int .i64 (0 : Int)), (.int .i64 ((1000000 : Int)))]).bind fun r0 =>
 some [(.bool (bit (nth r0 0)))] := by kernel_rfl
def qm2 (x0 x1 : Int) (z2 : Bool) (l3 : List Int) : St := ⟨fill 18 [(0, (.sl 0 none)), (3, (.int .i64 (x0))), (4, (.int .i64 (x1)))], [], [(.arr false (z2) (.ints .i64 (l3)))]⟩
theorem qg4 (k : Nat) (az : Bool) (a : List Int) : go (k + 1) spec_l07Sum [(.arr false (az) (.ints .i64 (a)))] =
 lp k spec_l07Sum [] [] 3 k (qm2 (0 : Int) (0 : Int) az a) := by kernel_rfl
theorem qi8 (k n : Nat) (fu : List (Nat × Nat)) (x0 x1 : Int) (z2 : Bool) (l3 : List Int) : lp k spec_l07Sum [] fu 3 (n + 1) (qm2 x0 x1 z2 l3) =
 cond (decide (x1 < nI (List.length l3)))
 (cond (decide ((0 : Int) ≤ x1) && decide (x1 < nI (List.length l3)))
 (lp k spec_l07Sum [] fu 3 n (qm2 (IntKind.wrap .i64 (x0 + List.getD l3 (Int.toNat x1) (0 : Int))) (IntKind.wrap .i64 (x1 + (1 : Int))) z2 l3))
 (none))
 (some [(.int .i64 (x0))]) := by kernel_rfl
def qmm (x0 x1 x2 : Int) (z3 : Bool) (l4 : List Int) : St := ⟨fill 17 [(3, (.int .i64 (x0))), (6, (.sl 0 none)), (7, (.int .i64 (x1))), (8, (.int .i64 (x2)))], [], [(.arr false (z3) (.ints .i64 (l4)))]⟩
theorem qft (k : Nat) (az : Bool) (a : List Int) : go (k + 1) impl_sum [(.arr false (az) (.ints .i64 (a)))] =
 lp k impl_sum [] [] 3 k (qmm (0 : Int) (nI (List.length a)) (0 : Int) az a) := by kernel_rfl
theorem qis (k n : Nat) (fu : List (Nat × Nat)) (x0 x1 x2 : Int) (z3 : Bool) (l4 : List Int) : lp k impl_sum [] fu 3 (n + 1) (qmm x0 x1 x2 z3 l4) =
 cond (decide (x2 < x1))
 (cond (decide ((0 : Int) ≤ x2) && decide (x2 < nI (List.length l4)))
 (lp k impl_sum [] fu 3 n (qmm (IntKind.wrap .i64 (x0 + List.getD l4 (Int.toNat x2) (0 : Int))) x1 (IntKind.wrap .i64 (x2 + (1 : Int))) z3 l4))
 (none))
 (some [(.int .i64 (x0))]) := by kernel_rfl
def qmn (x0 x1 : Int) (z2 : Bool) (l3 : List Int) : St := ⟨fill 19 [(0, (.sl 0 none)), (1, (.fn impl_State_hasCells_1 [])), (7, (.int .i64 (x0))), (8, (.int .i64 (x1)))], [], [(.arr false (z2) (.ints .i64 (l3)))]⟩
theorem qfz (k : Nat) (v0 : Bool) (v1 : List Int) : go (k + 1) slices_IndexFunc_int_int [(.arr false (v0) (.ints .i64 (v1))), (.fn impl_State_hasCells_1 [])] =
 lp k slices_IndexFunc_int_int [] [] 2 k (qmn (nI (List.length v1)) (0 : Int) v0 v1) := by kernel_rfl
theorem qit (k n : Nat) (fu : List (Nat × Nat)) (x0 x1 : Int) (z2 : Bool) (l3 : List Int) : lp k slices_IndexFunc_int_int [] fu 2 (n + 1) (qmn x0 x1 z2 l3) =
 cond (decide (x1 < x0))
 (cond (decide ((0 : Int) ≤ x1) && decide (x1 < nI (List.length l3)))
 ((go k impl_State_hasCells_1 [(.int .i64 (List.getD l3 (Int.toNat x1) (0 : Int)))]).bind fun r0 =>
 cond (bit (nth r0 0))
 (some [(.int .i64 (x1))])
 (lp k slices_IndexFunc_int_int [] fu 2 n (qmn x0 (IntKind.wrap .i64 (x1 + (1 : Int))) z2 l3)))
 (none))
 (some [(.int .i64 ((-1 : Int)))]) := by kernel_rfl
theorem qfy (k : Nat) (v0 : Bool) (v1 : List Int) : go (k + 1) slices_ContainsFunc_int_int [(.arr false (v0) (.ints .i64 (v1))), (.fn impl_State_hasCells_1 [])] =
 (go k slices_IndexFunc_int_int [(.arr false (v0) (.ints .i64 (v1))), (.fn impl_State_hasCells_1 [])]).bind fun r0 =>
 some [(.bool (decide ((0 : Int) ≤ D.toInt (nth r0 0))))] := by kernel_rfl
theorem qgr (k : Nat) (a0 : Int) (a1z : Bool) (a1 : List (Int × Int × Int)) : go (k + 1) spec_l04Copy [(.agg [(.int .i64 (a0)), (.arr false (a1z) (.r3 (a1)))])] =
 cond (decide (List.length ([] ++ a1) ≤ bigLen))
 (some [(.agg [(.int .i64 (a0)), (.arr true (false && decide (List.length ([] ++ a1) = 0)) (.r3 ([] ++ a1)))])])
 (none) := by kernel_rfl
theorem qg2 (k : Nat) (a0 : Int) (a1z : Bool) (a1 : List (Int × Int × Int)) (a2z : Bool) (a2 : List Int) (a3z : Bool) (a3 : List Int) (a4z : Bool) (a4 : List Int) : go (k + 1) spec_l07Copy [(.agg [(.int .i64 (a0)), (.arr false (a1z) (.r3 (a1))), (.arr false (a2z) (.ints .i64 (a2))), (.arr false (a3z) (.ints .i64 (a3))), (.arr false (a4z) (.ints .i64 (a4)))])] =
 (go k spec_l04Copy [(.agg [(.int .i64 (a0)), (.arr false (a1z) (.r3 (a1)))])]).bind fun r0 =>
 cond (decide (List.length ([] ++ a2) ≤ bigLen))
 (cond (decide (List.length ([] ++ a3) ≤ bigLen))
 (cond (decide (List.length ([] ++ a4) ≤ bigLen))
 (some [(.agg [(.int .i64 (D.toInt (D.cell 0 (nth r0 0)))), (.arr true (D.nil (D.cell 1 (nth r0 0))) (.r3 (D.r3 (D.cell 1 (nth r0 0))))), (.arr true (false && decide (List.length ([] ++ a2) = 0)) (.ints .i64 ([] ++ a2))), (.arr true (false && decide (List.length ([] ++ a3) = 0)) (.ints .i64 ([] ++ a3))), (.arr true (false && decide (List.length ([] ++ a4) = 0)) (.ints .i64 ([] ++ a4)))])])
 (none))
 (none))
 (none) := by kernel_rfl
theorem qfn (k : Nat) (a0 : Int) (a1z : Bool) (a1 : List (Int × Int × Int)) : go (k + 1) impl_copyMesh [(.agg [(.int .i64 (a0)), (.arr false (a1z) (.r3 (a1)))])] =
 (go k slices_Clone_impl_Id_impl_Id [(.arr false (a1z) (.r3 (a1)))]).bind fun r0 =>
 some [(.agg [(.int .i64 (a0)), (.arr true (D.nil (nth r0 0)) (.r3 (D.r3 (nth r0 0))))])] := by kernel_rfl
theorem qfx (k : Nat) (az : Bool) (a : List (Int × Int × Int)) : go (k + 1) slices_Clone_impl_Id_impl_Id [(.arr false (az) (.r3 (a)))] =
 cond (az)
 (some [(.arr true (true) (.r3 ([])))])
 (cond (decide (List.length ([] ++ a) ≤ bigLen))
 (some [(.arr true (false && decide (List.length ([] ++ a) = 0)) (.r3 ([] ++ a)))])
 (none)) := by kernel_rfl
end Go.Proofs.Ytcaapedadpnjoaa
end
section
namespace Go.Proofs.Ytcaapedadpnjoaa
open Go.Ev
theorem qgp (k : Nat) (a b c : Int) : go (k + 1) spec_l01In [(.int .i64 (a)), (.int .i64 (b)), (.int .i64 (c))] =
 cond (decide (b ≤ a))
 (some [(.bool (decide (a ≤ c)))])
 (some [(.bool (false))]) := by kernel_rfl
theorem qfu (k : Nat) (a b c : Int) : go (k + 1) impl_within [(.int .i64 (a)), (.int .i64 (b)), (.int .i64 (c))] =
 cond (decide (b ≤ a))
 (some [(.bool (decide (a ≤ c)))])
 (some [(.bool (false))]) := by kernel_rfl
theorem qfq (k : Nat) (a : Int) : go (k + 1) impl_isLevel [(.int .i64 (a))] =
 (go k impl_within [(.int .i64 (a)), (.int .i64 (0 : Int)), (.int .i64 ((4 : Int)))]).bind fun r0 =>
 some [(.bool (bit (nth r0 0)))] := by kernel_rfl
theorem qf7 (k : Nat) (a0 a1 a2 : Int) : go (k + 1) spec_IdOk [(.agg [(.int .i64 (a0)), (.int .i64 (a1)), (.int .i64 (a2))])] =
 (go k spec_l01In [(.int .i64 (a0)), (.int .i64 (0 : Int)), (.int .i64 ((7 : Int)))]).bind fun r0 =>
 cond (bit (nth r0 0))
 ((go k spec_l01In [(.int .i64 (a1)), (.int .i64 (0 : Int)), (.int .i64 ((4 : Int)))]).bind fun r1 =>
 cond (bit (nth r1 0))
 (cond (decide ((0 : Int) ≤ a2))
 (cond (decide ((0 : Int) ≤ IntKind.wrap IntKind.u64 a1))
 (some [(.bool (decide (a2 < IntKind.wrap .i64 ((1 : Int) * (2 : Int) ^ shiftN .i64 (IntKind.wrap IntKind.u64 a1)))))])
 (none))
 (some [(.bool (false))]))
 (some [(.bool (false))]))
 (some [(.bool (false))]) := by kernel_rfl
theorem qe9 (k : Nat) (a0 a1 a2 : Int) : go (k + 1) impl_IdOk [(.agg [(.int .i64 (a0)), (.int .i64 (a1)), (.int .i64 (a2))])] =
 (go k impl_within [(.int .i64 (a0)), (.int .i64 (0 : Int)), (.int .i64 ((7 : Int)))]).bind fun r0 =>
 cond (bit (nth r0 0))
 ((go k impl_isLevel [(.int .i64 (a1))]).bind fun r1 =>
 cond (bit (nth r1 0))
 (cond (decide ((0 : Int) ≤ a1))
 ((go k impl_within [(.int .i64 (a2)), (.int .i64 (0 : Int)), (.int .i64 (IntKind.wrap .i64 (IntKind.wrap .i64 ((1 : Int) * (2 : Int) ^ shiftN .i64 a1) - (1 : Int))))]).bind fun r2 =>
 some [(.bool (bit (nth r2 0)))])
 (none))
 (some [(.bool (false))]))
 (some [(.bool (false))]) := by kernel_rfl
theorem qgm (k : Nat) (a : Int) : go (k + 1) spec_WidthOf [(.int .i64 (a))] =
 (go k spec_l01In [(.int .i64 (a)), (.int .i64 (0 : Int)), (.int .i64 ((4 : Int)))]).bind fun r0 =>
 cond (!bit (nth r0 0))
 (some [(.int .i64 (0 : Int))])
 (cond (decide ((0 : Int) ≤ IntKind.wrap IntKind.u64 a))
 (some [(.int .i64 (Int.fdiv (16 : Int) ((2 : Int) ^ shiftN .i64 (IntKind.wrap IntKind.u64 a))))])
 (none)) := by kernel_rfl
theorem qfk (k : Nat) (a : Int) : go (k + 1) impl_WidthOf [(.int .i64 (a))] =
 (go k impl_isLevel [(.int .i64 (a))]).bind fun r0 =>
 cond (!bit (nth r0 0))
 (some [(.int .i64 (0 : Int))])
 (cond (decide ((0 : Int) ≤ a))
 (some [(.int .i64 (Int.fdiv (16 : Int) ((2 : Int) ^ shiftN .i64 a)))])
 (none)) := by kernel_rfl
theorem qgk (k : Nat) (a0 a1 a2 : Int) : go (k + 1) spec_StartOf [(.agg [(.int .i64 (a0)), (.int .i64 (a1)), (.int .i64 (a2))])] =
 (go k spec_IdOk [(.agg [(.int .i64 (a0)), (.int .i64 (a1)), (.int .i64 (a2))])]).bind fun r0 =>
 cond (!bit (nth r0 0))
 (some [(.int .i64 ((-1 : Int)))])
 ((go k spec_WidthOf [(.int .i64 (a1))]).bind fun r1 =>
 some [(.int .i64 (IntKind.wrap .i64 (IntKind.wrap .i64 (a0 * (16 : Int)) + IntKind.wrap .i64 (a2 * D.toInt (nth r1 0)))))]) := by kernel_rfl
theorem qff (k : Nat) (a0 a1 a2 : Int) : go (k + 1) impl_StartOf [(.agg [(.int .i64 (a0)), (.int .i64 (a1)), (.int .i64 (a2))])] =
 (go k impl_IdOk [(.agg [(.int .i64 (a0)), (.int .i64 (a1)), (.int .i64 (a2))])]).bind fun r0 =>
 cond (!bit (nth r0 0))
 (some [(.int .i64 ((-1 : Int)))])
 ((go k impl_WidthOf [(.int .i64 (a1))]).bind fun r1 =>
 some [(.int .i64 (IntKind.wrap .i64 (IntKind.wrap .i64 (a0 * (16 : Int)) + IntKind.wrap .i64 (a2 * D.toInt (nth r1 0)))))]) := by kernel_rfl
theorem qgs (k : Nat) (a0 a1 a2 : Int) : go (k + 1) spec_l04End [(.agg [(.int .i64 (a0)), (.int .i64 (a1)), (.int .i64 (a2))])] =
 (go k spec_StartOf [(.agg [(.int .i64 (a0)), (.int .i64 (a1)), (.int .i64 (a2))])]).bind fun r0 =>
 (go k spec_WidthOf [(.int .i64 (a1))]).bind fun r1 =>
 some [(.int .i64 (IntKind.wrap .i64 (D.toInt (nth r0 0) + D.toInt (nth r1 0))))] := by kernel_rfl
theorem qfo (k : Nat) (a0 a1 a2 : Int) : go (k + 1) impl_endOf [(.agg [(.int .i64 (a0)), (.int .i64 (a1)), (.int .i64 (a2))])] =
 (go k impl_StartOf [(.agg [(.int .i64 (a0)), (.int .i64 (a1)), (.int .i64 (a2))])]).bind fun r0 =>
 (go k impl_WidthOf [(.int .i64 (a1))]).bind fun r1 =>
 some [(.int .i64 (IntKind.wrap .i64 (D.toInt (nth r0 0) + D.toInt (nth r1 0))))] := by kernel_rfl
def qmu (x0 x1 : Int) (z2 : Bool) (l3 : List (Int × Int × Int)) (x4 : Int) : St := ⟨fill 45 [(1, (.ptr 1 (0) (0))), (3, (.int .i64 (x0))), (4, (.int .i64 (x1)))], [], [(.arr false (z2) (.r3 (l3))), (.box true [(.int .i64 (x4)), (.sl 0 none)])]⟩
theorem qge (k : Nat) (a0 : Int) (a1z : Bool) (a1 : List (Int × Int × Int)) : go (k + 1) spec_MeshOk [(.agg [(.int .i64 (a0)), (.arr false (a1z) (.r3 (a1)))])] =
 lp k spec_MeshOk [] [] 3 k (qmu (0 : Int) (0 : Int) a1z a1 a0) := by kernel_rfl
theorem qi0 (k n : Nat) (fu : List (Nat × Nat)) (x0 x1 : Int) (z2 : Bool) (l3 : List (Int × Int × Int)) (x4 : Int) : lp k spec_MeshOk [] fu 3 (n + 1) (qmu x0 x1 z2 l3 x4) =
 cond (decide (x1 < nI (List.length l3)))
 (cond (decide ((0 : Int) ≤ x1) && decide (x1 < nI (List.length l3)))
 ((go k spec_IdOk [(.agg [(.int .i64 (Prod.fst (List.getD l3 (Int.toNat x1) zz3))), (.int .i64 (Prod.fst (Prod.snd (List.getD l3 (Int.toNat x1) zz3)))), (.int .i64 (Prod.snd (Prod.snd (List.getD l3 (Int.toNat x1) zz3))))])]).bind fun r0 =>
 cond (!bit (nth r0 0))
 (some [(.bool (false))])
 (cond (decide ((0 : Int) ≤ x1) && decide (x1 < nI (List.length l3)))
 ((go k spec_StartOf [(.agg [(.int .i64 (Prod.fst (List.getD l3 (Int.toNat x1) zz3))), (.int .i64 (Prod.fst (Prod.snd (List.getD l3 (Int.toNat x1) zz3)))), (.int .i64 (Prod.snd (Prod.snd (List.getD l3 (Int.toNat x1) zz3))))])]).bind fun r1 =>
 cond (!decide (D.toInt (nth r1 0) = x0))
 (some [(.bool (false))])
 (cond (decide ((0 : Int) ≤ x1) && decide (x1 < nI (List.length l3)))
 ((go k spec_l04End [(.agg [(.int .i64 (Prod.fst (List.getD l3 (Int.toNat x1) zz3))), (.int .i64 (Prod.fst (Prod.snd (List.getD l3 (Int.toNat x1) zz3)))), (.int .i64 (Prod.snd (Prod.snd (List.getD l3 (Int.toNat x1) zz3))))])]).bind fun r2 =>
 lp k spec_MeshOk [] fu 3 n (qmu (D.toInt (nth r2 0)) (IntKind.wrap .i64 (x1 + (1 : Int))) z2 l3 x4))
 (none)))
 (none)))
 (none))
 ((go k spec_l01In [(.int .i64 (x4)), (.int .i64 ((1 : Int))), (.int .i64 ((8 : Int)))]).bind fun r3 =>
 cond (bit (nth r3 0))
 (some [(.bool (decide (x0 = IntKind.wrap .i64 (x4 * (16 : Int)))))])
 (some [(.bool (false))])) := by kernel_rfl
def qmj (x0 x1 x2 : Int) (z3 : Bool) (l4 : List (Int × Int × Int)) (x5 : Int) : St := ⟨fill 35 [(1, (.ptr 1 (0) (0))), (3, (.int .i64 (x0))), (7, (.sl 0 none)), (8, (.int .i64 (x1))), (9, (.int .i64 (x2)))], [], [(.arr false (z3) (.r3 (l4))), (.box true [(.int .i64 (x5)), (.sl 0 none)])]⟩
theorem qfb (k : Nat) (a0 : Int) (a1z : Bool) (a1 : List (Int × Int × Int)) : go (k + 1) impl_MeshOk [(.agg [(.int .i64 (a0)), (.arr false (a1z) (.r3 (a1)))])] =
 lp k impl_MeshOk [] [] 3 k (qmj (0 : Int) (nI (List.length a1)) (0 : Int) a1z a1 a0) := by kernel_rfl
theorem qip (k n : Nat) (fu : List (Nat × Nat)) (x0 x1 x2 : Int) (z3 : Bool) (l4 : List (Int × Int × Int)) (x5 : Int) : lp k impl_MeshOk [] fu 3 (n + 1) (qmj x0 x1 x2 z3 l4 x5) =
 cond (decide (x2 < x1))
 (cond (decide ((0 : Int) ≤ x2) && decide (x2 < nI (List.length l4)))
 ((go k impl_IdOk [(.agg [(.int .i64 (Prod.fst (List.getD l4 (Int.toNat x2) zz3))), (.int .i64 (Prod.fst (Prod.snd (List.getD l4 (Int.toNat x2) zz3)))), (.int .i64 (Prod.snd (Prod.snd (List.getD l4 (Int.toNat x2) zz3))))])]).bind fun r0 =>
 cond (!bit (nth r0 0))
 (some [(.bool (false))])
 ((go k impl_StartOf [(.agg [(.int .i64 (Prod.fst (List.getD l4 (Int.toNat x2) zz3))), (.int .i64 (Prod.fst (Prod.snd (List.getD l4 (Int.toNat x2) zz3)))), (.int .i64 (Prod.snd (Prod.snd (List.getD l4 (Int.toNat x2) zz3))))])]).bind fun r1 =>
 cond (!decide (D.toInt (nth r1 0) = x0))
 (some [(.bool (false))])
 ((go k impl_endOf [(.agg [(.int .i64 (Prod.fst (List.getD l4 (Int.toNat x2) zz3))), (.int .i64 (Prod.fst (Prod.snd (List.getD l4 (Int.toNat x2) zz3)))), (.int .i64 (Prod.snd (Prod.snd (List.getD l4 (Int.toNat x2) zz3))))])]).bind fun r2 =>
 lp k impl_MeshOk [] fu 3 n (qmj (D.toInt (nth r2 0)) x1 (IntKind.wrap .i64 (x2 + (1 : Int))) z3 l4 x5))))
 (none))
 ((go k impl_within [(.int .i64 (x5)), (.int .i64 ((1 : Int))), (.int .i64 ((8 : Int)))]).bind fun r3 =>
 cond (bit (nth r3 0))
 (some [(.bool (decide (x0 = IntKind.wrap .i64 (x5 * (16 : Int)))))])
 (some [(.bool (false))])) := by kernel_rfl
theorem qgw (k : Nat) (a0 : Int) (a1z : Bool) (a1 : List (Int × Int × Int)) (b : Int) : go (k + 1) spec_l05Face [(.agg [(.int .i64 (a0)), (.arr false (a1z) (.r3 (a1)))]), (.int .i64 (b))] =
 cond (decide ((0 : Int) ≤ b) && decide (b < nI (List.length a1)))
 (cond (decide ((0 : Int) ≤ IntKind.wrap .i64 (b + (1 : Int))) && decide (IntKind.wrap .i64 (b + (1 : Int)) < nI (List.length a1)))
 (some [(.int .i64 (if Prod.fst (Prod.snd (List.getD a1 (Int.toNat (IntKind.wrap .i64 (b + (1 : Int)))) zz3)) > Prod.fst (Prod.snd (List.getD a1 (Int.toNat b) zz3)) then Prod.fst (Prod.snd (List.getD a1 (Int.toNat (IntKind.wrap .i64 (b + (1 : Int)))) zz3)) else Prod.fst (Prod.snd (List.getD a1 (Int.toNat b) zz3))))])
 (none))
 (none) := by kernel_rfl
theorem qf8 (k : Nat) (a b : Int) : go (k + 1) spec_IsActive [(.int .i64 (a)), (.int .i64 (b))] =
 (go k spec_WidthOf [(.int .i64 (b))]).bind fun r0 =>
 cond (decide ((0 : Int) ≤ a))
 (cond (decide ((0 : Int) < D.toInt (nth r0 0)))
 (cond (!decide (D.toInt (nth r0 0) = (0 : Int)))
 (some [(.bool (decide (Int.tmod a (D.toInt (nth r0 0)) = (0 : Int))))])
 (none))
 (some [(.bool (false))]))
 (some [(.bool (false))]) := by kernel_rfl
def qmz (x0 : Int) (z1 : Bool) (l2 : List (Int × Int × Int)) (x3 : Int) : St := ⟨fill 34 [(1, (.ptr 1 (0) (0))), (3, (.int .i64 (x0)))], [], [(.arr false (z1) (.r3 (l2))), (.box true [(.int .i64 (x3)), (.sl 0 none)])]⟩
theorem qgx (k : Nat) (a0 : Int) (a1z : Bool) (a1 : List (Int × Int × Int)) : go (k + 1) spec_l05First [(.agg [(.int .i64 (a0)), (.arr false (a1z) (.r3 (a1)))])] =
 lp k spec_l05First [] [] 2 k (qmz (0 : Int) a1z a1 a0) := by kernel_rfl
theorem qi5 (k n : Nat) (fu : List (Nat × Nat)) (x0 : Int) (z1 : Bool) (l2 : List (Int × Int × Int)) (x3 : Int) : lp k spec_l05First [] fu 2 (n + 1) (qmz x0 z1 l2 x3) =
 cond (decide (IntKind.wrap .i64 (x0 + (1 : Int)) < nI (List.length l2)))
 (cond (decide ((0 : Int) ≤ x0) && decide (x0 < nI (List.length l2)))
 (cond (decide ((0 : Int) ≤ IntKind.wrap .i64 (x0 + (1 : Int))) && decide (IntKind.wrap .i64 (x0 + (1 : Int)) < nI (List.length l2)))
 (cond (decide ((1 : Int) < IntKind.wrap .i64 (Prod.fst (Prod.snd (List.getD l2 (Int.toNat x0) zz3)) - Prod.fst (Prod.snd (List.getD l2 (Int.toNat (IntKind.wrap .i64 (x0 + (1 : Int)))) zz3)))))
 (some [(.int .i64 (x0))])
 (cond (decide (IntKind.wrap .i64 (Prod.fst (Prod.snd (List.getD l2 (Int.toNat x0) zz3)) - Prod.fst (Prod.snd (List.getD l2 (Int.toNat (IntKind.wrap .i64 (x0 + (1 : Int)))) zz3))) < (-1 : Int)))
 (some [(.int .i64 (x0))])
 (lp k spec_l05First [] fu 2 n (qmz (IntKind.wrap .i64 (x0 + (1 : Int))) z1 l2 x3))))
 (none))
 (none))
 (some [(.int .i64 ((-1 : Int)))]) := by kernel_rfl
def qmk (x0 x1 : Int) (z2 : Bool) (l3 : List (Int × Int × Int)) (x4 : Int) : St := ⟨fill 29 [(1, (.ptr 1 (0) (0))), (7, (.int .i64 (x0))), (8, (.int .i64 (x1)))], [], [(.arr false (z2) (.r3 (l3))), (.box true [(.int .i64 (x4)), (.sl 0 none)])]⟩
theorem qfc (k : Nat) (a0 : Int) (a1z : Bool) (a1 : List (Int × Int × Int)) : go (k + 1) impl_Mesh_unbalanced [(.agg [(.int .i64 (a0)), (.arr false (a1z) (.r3 (a1)))])] =
 lp k impl_Mesh_unbalanced [] [] 2 k (qmk (IntKind.wrap .i64 (nI (List.length a1) - (1 : Int))) (0 : Int) a1z a1 a0) := by kernel_rfl
theorem qiq (k n : Nat) (fu : List (Nat × Nat)) (x0 x1 : Int) (z2 : Bool) (l3 : List (Int × Int × Int)) (x4 : Int) : lp k impl_Mesh_unbalanced [] fu 2 (n + 1) (qmk x0 x1 z2 l3 x4) =
 cond (decide (x1 < x0))
 (cond (decide ((0 : Int) ≤ x1) && decide (x1 < nI (List.length l3)))
 (cond (decide ((0 : Int) ≤ IntKind.wrap .i64 (x1 + (1 : Int))) && decide (IntKind.wrap .i64 (x1 + (1 : Int)) < nI (List.length l3)))
 ((go k impl_absolute [(.int .i64 (IntKind.wrap .i64 (Prod.fst (Prod.snd (List.getD l3 (Int.toNat x1) zz3)) - Prod.fst (Prod.snd (List.getD l3 (Int.toNat (IntKind.wrap .i64 (x1 + (1 : Int)))) zz3)))))]).bind fun r0 =>
 cond (decide ((1 : Int) < D.toInt (nth r0 0)))
 (some [(.int .i64 (x1))])
 (lp k impl_Mesh_unbalanced [] fu 2 n (qmk x0 (IntKind.wrap .i64 (x1 + (1 : Int))) z2 l3 x4)))
 (none))
 (none))
 (some [(.int .i64 ((-1 : Int)))]) := by kernel_rfl
theorem qfm (k : Nat) (a : Int) : go (k + 1) impl_absolute [(.int .i64 (a))] =
 some [(.int .i64 (if IntKind.wrap .i64 ((0 : Int) - a) > a then IntKind.wrap .i64 ((0 : Int) - a) else a))] := by kernel_rfl
theorem qf9 (k : Nat) (a0 : Int) (a1z : Bool) (a1 : List (Int × Int × Int)) : go (k + 1) spec_IsBalanced [(.agg [(.int .i64 (a0)), (.arr false (a1z) (.r3 (a1)))])] =
 (go k spec_MeshOk [(.agg [(.int .i64 (a0)), (.arr false (a1z) (.r3 (a1)))])]).bind fun r0 =>
 cond (bit (nth r0 0))
 ((go k spec_l05First [(.agg [(.int .i64 (a0)), (.arr false (a1z) (.r3 (a1)))])]).bind fun r1 =>
 some [(.bool (decide (D.toInt (nth r1 0) < (0 : Int))))])
 (some [(.bool (false))]) := by kernel_rfl
theorem qfa (k : Nat) (a0 : Int) (a1z : Bool) (a1 : List (Int × Int × Int)) : go (k + 1) impl_IsBalanced [(.agg [(.int .i64 (a0)), (.arr false (a1z) (.r3 (a1)))])] =
 (go k impl_MeshOk [(.agg [(.int .i64 (a0)), (.arr false (a1z) (.r3 (a1)))])]).bind fun r0 =>
 cond (bit (nth r0 0))
 ((go k impl_Mesh_unbalanced [(.agg [(.int .i64 (a0)), (.arr false (a1z) (.r3 (a1)))])]).bind fun r1 =>
 some [(.bool (decide (D.toInt (nth r1 0) < (0 : Int))))])
 (some [(.bool (false))]) := by kernel_rfl
end Go.Proofs.Ytcaapedadpnjoaa
end
section
namespace Go.Proofs.Ytcaapedadpnjoaa
open Go.Ev
theorem qpp {x : Int} (h : -9223372036854775808 ≤ x) (h' : x ≤ 9223372036854775807) : IntKind.wrap .i64 x = x := by rw [IntKind.wrap_i64]; omega
theorem qpq {x : Int} (h : 0 ≤ x) (h' : x ≤ 9223372036854775807) : IntKind.wrap .u64 x = x := by rw [IntKind.wrap_u64]; omega
theorem nth0 (d0 : D) (l : List D) : nth (d0 :: l) 0 = d0 := Eq.trans rfl rfl
theorem nth1 (d0 d1 : D) (l : List D) : nth (d0 :: d1 :: l) 1 = d1 := Eq.trans rfl rfl
theorem nth2 (d0 d1 d2 : D) (l : List D) : nth (d0 :: d1 :: d2 :: l) 2 = d2 := Eq.trans rfl rfl
theorem nth3 (d0 d1 d2 d3 : D) (l : List D) : nth (d0 :: d1 :: d2 :: d3 :: l) 3 = d3 := Eq.trans rfl rfl
theorem qdu (d0 : D) (l : List D) : (D.agg (d0 :: l)).cell 0 = d0 := Eq.trans rfl rfl
theorem qdv (d0 d1 : D) (l : List D) : (D.agg (d0 :: d1 :: l)).cell 1 = d1 := Eq.trans rfl rfl
theorem qd6 (d0 d1 d2 : D) (l : List D) : (D.agg (d0 :: d1 :: d2 :: l)).cell 2 = d2 := Eq.trans rfl rfl
theorem qeb (d0 d1 d2 d3 : D) (l : List D) : (D.agg (d0 :: d1 :: d2 :: d3 :: l)).cell 3 = d3 := Eq.trans rfl rfl
theorem qec (d0 d1 d2 d3 d4 : D) (l : List D) : (D.agg (d0 :: d1 :: d2 :: d3 :: d4 :: l)).cell 4 = d4 := Eq.trans rfl rfl
theorem qed (d0 d1 d2 d3 d4 d5 : D) (l : List D) : (D.agg (d0 :: d1 :: d2 :: d3 :: d4 :: d5 :: l)).cell 5 = d5 := Eq.trans rfl rfl
theorem qee (d0 d1 d2 d3 d4 d5 d6 : D) (l : List D) : (D.agg (d0 :: d1 :: d2 :: d3 :: d4 :: d5 :: d6 :: l)).cell 6 = d6 := Eq.trans rfl rfl
theorem qef (d0 d1 d2 d3 d4 d5 d6 d7 : D) (l : List D) : (D.agg (d0 :: d1 :: d2 :: d3 :: d4 :: d5 :: d6 :: d7 :: l)).cell 7 = d7 := Eq.trans rfl rfl
theorem qeg (d0 d1 d2 d3 d4 d5 d6 d7 d8 : D) (l : List D) : (D.agg (d0 :: d1 :: d2 :: d3 :: d4 :: d5 :: d6 :: d7 :: d8 :: l)).cell 8 = d8 := Eq.trans rfl rfl
theorem qeh (d0 d1 d2 d3 d4 d5 d6 d7 d8 d9 : D) (l : List D) : (D.agg (d0 :: d1 :: d2 :: d3 :: d4 :: d5 :: d6 :: d7 :: d8 :: d9 :: l)).cell 9 = d9 := Eq.trans rfl rfl
theorem qdw (d0 d1 d2 d3 d4 d5 d6 d7 d8 d9 d10 : D) (l : List D) : (D.agg (d0 :: d1 :: d2 :: d3 :: d4 :: d5 :: d6 :: d7 :: d8 :: d9 :: d10 :: l)).cell 10 = d10 := Eq.trans rfl rfl
theorem qdx (d0 d1 d2 d3 d4 d5 d6 d7 d8 d9 d10 d11 : D) (l : List D) : (D.agg (d0 :: d1 :: d2 :: d3 :: d4 :: d5 :: d6 :: d7 :: d8 :: d9 :: d10 :: d11 :: l)).cell 11 = d11 := Eq.trans rfl rfl
theorem qdy (d0 d1 d2 d3 d4 d5 d6 d7 d8 d9 d10 d11 d12 : D) (l : List D) : (D.agg (d0 :: d1 :: d2 :: d3 :: d4 :: d5 :: d6 :: d7 :: d8 :: d9 :: d10 :: d11 :: d12 :: l)).cell 12 = d12 := Eq.trans rfl rfl
theorem qdz (d0 d1 d2 d3 d4 d5 d6 d7 d8 d9 d10 d11 d12 d13 : D) (l : List D) : (D.agg (d0 :: d1 :: d2 :: d3 :: d4 :: d5 :: d6 :: d7 :: d8 :: d9 :: d10 :: d11 :: d12 :: d13 :: l)).cell 13 = d13 := Eq.trans rfl rfl
theorem qd0 (d0 d1 d2 d3 d4 d5 d6 d7 d8 d9 d10 d11 d12 d13 d14 : D) (l : List D) : (D.agg (d0 :: d1 :: d2 :: d3 :: d4 :: d5 :: d6 :: d7 :: d8 :: d9 :: d10 :: d11 :: d12 :: d13 :: d14 :: l)).cell 14 = d14 := Eq.trans rfl rfl
theorem qd1 (d0 d1 d2 d3 d4 d5 d6 d7 d8 d9 d10 d11 d12 d13 d14 d15 : D) (l : List D) : (D.agg (d0 :: d1 :: d2 :: d3 :: d4 :: d5 :: d6 :: d7 :: d8 :: d9 :: d10 :: d11 :: d12 :: d13 :: d14 :: d15 :: l)).cell 15 = d15 := Eq.trans rfl rfl
theorem qd2 (d0 d1 d2 d3 d4 d5 d6 d7 d8 d9 d10 d11 d12 d13 d14 d15 d16 : D) (l : List D) : (D.agg (d0 :: d1 :: d2 :: d3 :: d4 :: d5 :: d6 :: d7 :: d8 :: d9 :: d10 :: d11 :: d12 :: d13 :: d14 :: d15 :: d16 :: l)).cell 16 = d16 := Eq.trans rfl rfl
theorem qd3 (d0 d1 d2 d3 d4 d5 d6 d7 d8 d9 d10 d11 d12 d13 d14 d15 d16 d17 : D) (l : List D) : (D.agg (d0 :: d1 :: d2 :: d3 :: d4 :: d5 :: d6 :: d7 :: d8 :: d9 :: d10 :: d11 :: d12 :: d13 :: d14 :: d15 :: d16 :: d17 :: l)).cell 17 = d17 := Eq.trans rfl rfl
theorem qd4 (d0 d1 d2 d3 d4 d5 d6 d7 d8 d9 d10 d11 d12 d13 d14 d15 d16 d17 d18 : D) (l : List D) : (D.agg (d0 :: d1 :: d2 :: d3 :: d4 :: d5 :: d6 :: d7 :: d8 :: d9 :: d10 :: d11 :: d12 :: d13 :: d14 :: d15 :: d16 :: d17 :: d18 :: l)).cell 18 = d18 := Eq.trans rfl rfl
theorem qd5 (d0 d1 d2 d3 d4 d5 d6 d7 d8 d9 d10 d11 d12 d13 d14 d15 d16 d17 d18 d19 : D) (l : List D) : (D.agg (d0 :: d1 :: d2 :: d3 :: d4 :: d5 :: d6 :: d7 :: d8 :: d9 :: d10 :: d11 :: d12 :: d13 :: d14 :: d15 :: d16 :: d17 :: d18 :: d19 :: l)).cell 19 = d19 := Eq.trans rfl rfl
theorem qd7 (d0 d1 d2 d3 d4 d5 d6 d7 d8 d9 d10 d11 d12 d13 d14 d15 d16 d17 d18 d19 d20 : D) (l : List D) : (D.agg (d0 :: d1 :: d2 :: d3 :: d4 :: d5 :: d6 :: d7 :: d8 :: d9 :: d10 :: d11 :: d12 :: d13 :: d14 :: d15 :: d16 :: d17 :: d18 :: d19 :: d20 :: l)).cell 20 = d20 := Eq.trans rfl rfl
theorem qd8 (d0 d1 d2 d3 d4 d5 d6 d7 d8 d9 d10 d11 d12 d13 d14 d15 d16 d17 d18 d19 d20 d21 : D) (l : List D) : (D.agg (d0 :: d1 :: d2 :: d3 :: d4 :: d5 :: d6 :: d7 :: d8 :: d9 :: d10 :: d11 :: d12 :: d13 :: d14 :: d15 :: d16 :: d17 :: d18 :: d19 :: d20 :: d21 :: l)).cell 21 = d21 := Eq.trans rfl rfl
theorem qd9 (d0 d1 d2 d3 d4 d5 d6 d7 d8 d9 d10 d11 d12 d13 d14 d15 d16 d17 d18 d19 d20 d21 d22 : D) (l : List D) : (D.agg (d0 :: d1 :: d2 :: d3 :: d4 :: d5 :: d6 :: d7 :: d8 :: d9 :: d10 :: d11 :: d12 :: d13 :: d14 :: d15 :: d16 :: d17 :: d18 :: d19 :: d20 :: d21 :: d22 :: l)).cell 22 = d22 := Eq.trans rfl rfl
theorem qea (d0 d1 d2 d3 d4 d5 d6 d7 d8 d9 d10 d11 d12 d13 d14 d15 d16 d17 d18 d19 d20 d21 d22 d23 : D) (l : List D) : (D.agg (d0 :: d1 :: d2 :: d3 :: d4 :: d5 :: d6 :: d7 :: d8 :: d9 :: d10 :: d11 :: d12 :: d13 :: d14 :: d15 :: d16 :: d17 :: d18 :: d19 :: d20 :: d21 :: d22 :: d23 :: l)).cell 23 = d23 := Eq.trans rfl rfl
theorem qo2 (k : IntKind) (n : Int) : (D.int k n).toInt = n := Eq.trans rfl rfl
theorem qo1 (b : Bool) : (D.bool b).toBool = b := Eq.trans rfl rfl
theorem qo3 (s : ByteArray) : (D.str s).toStr = s := Eq.trans rfl rfl
theorem qlg (o n : Bool) (a : Arr) : (D.arr o n a).nil = n := Eq.trans rfl rfl
theorem ql2 (o n : Bool) (l : List (Int × Int × Int)) : (D.arr o n (.r3 l)).r3 = l := Eq.trans rfl rfl
theorem ql3 (o n : Bool) (l : List (Int × Int × Int × Int)) : (D.arr o n (.r4 l)).r4 = l := Eq.trans rfl rfl
theorem qh9 (o n : Bool) (k : IntKind) (l : List Int) : (D.arr o n (.ints k l)).ints = l := Eq.trans rfl rfl
theorem qa5 (o n : Bool) (l : List Bool) : (D.arr o n (.bools l)).bools = l := Eq.trans rfl rfl
theorem qod (o n : Bool) (l : List ByteArray) : (D.arr o n (.strs l)).strs = l := Eq.trans rfl rfl
theorem qet {α : Type} (x y : α) : cond true x y = x := Eq.trans rfl rfl
theorem qer {α : Type} (x y : α) : cond false x y = y := Eq.trans rfl rfl
theorem qaz {α : Type} (x : List D) (f : List D → Option α) : (some x).bind f = f x := Eq.trans rfl rfl
theorem dT {p : Prop} {i : Decidable p} (h : p) : @decide p i = true := by cases i <;> simp_all
theorem dF {p : Prop} {i : Decidable p} (h : ¬p) : @decide p i = false := by cases i <;> simp_all
theorem qds (i : Nat) : (i : Int) + 1 = ((i + 1 : Nat) : Int) := Eq.trans rfl rfl
theorem qdt (i : Nat) : (i : Int) + 2 = ((i + 2 : Nat) : Int) := Eq.trans rfl rfl
theorem qdq {i : Nat} (h : 1 ≤ i) : (i : Int) - 1 = ((i - 1 : Nat) : Int) := by omega
theorem itT {α : Type} {i : Decidable True} (x y : α) : @ite α True i x y = x := by cases i with | isTrue _ => rfl | isFalse h => exact absurd trivial h
theorem itF {α : Type} {i : Decidable False} (x y : α) : @ite α False i x y = y := by cases i with | isTrue h => exact h.elim | isFalse _ => rfl
theorem niF {α : Type} {a b : Nat} {i : Decidable (a = b)} {x y : α} (h : ¬ a = b) : @ite α (a = b) i x y = y := by cases i with | isTrue e => exact absurd e h | isFalse _ => rfl
theorem imax (x y : Int) : (if x > y then x else y) = max x y := by by_cases h : x > y <;> simp only [h, if_true, if_false] <;> omega
theorem imin (x y : Int) : (if x < y then x else y) = min x y := by by_cases h : x < y <;> simp only [h, if_true, if_false] <;> omega
theorem qeu (b x : Bool) : cond (!b) (some [D.bool false]) (some [D.bool x]) = some [D.bool (b && x)] := by cases b <;> rfl
theorem qev (b x : Bool) : cond b (some [D.bool x]) (some [D.bool false]) = some [D.bool (b && x)] := by cases b <;> rfl
theorem dTT {i : Decidable True} : @decide True i = true := by cases i with | isTrue _ => rfl | isFalse h => exact absurd trivial h
theorem dFF {i : Decidable False} : @decide False i = false := by cases i with | isTrue h => exact h.elim | isFalse _ => rfl
theorem bigI : ((bigLen : Nat) : Int) = 1099511627776 := Eq.trans rfl rfl
theorem qlf {α : Type} (l : List α) : [] ++ l = l := Eq.trans rfl rfl
theorem big0 : bigLen = 1099511627776 := Eq.trans rfl rfl
theorem qe3 {α : Type} {l : List α} {i : Nat} (h : i < l.length) (d : α) : l.drop i = l.getD i d :: l.drop (i + 1) := by
  rw [List.drop_eq_getElem_cons h]; simp [h]
theorem qne {α : Type} (l : List α) (i j : Nat) (x d : α) : (l.set i x).getD j d = if i = j ∧ i < l.length then x else l.getD j d := by
  simp only [List.getD_eq_getElem?_getD, List.getElem?_set]
  by_cases h : i = j
  · subst h
    by_cases h2 : i < l.length
    · simp [h2]
    · simp [h2]
  · simp [h]
theorem qh3 {α : Type} {l : List α} {i : Nat} (h : l.length ≤ i) (d : α) : l.getD i d = d := by simp [h]
theorem qh4 {α : Type} {l : List α} {i : Nat} (h : i < l.length) (d : α) : l.getD i d ∈ l := by simp [h]
end Go.Proofs.Ytcaapedadpnjoaa
end
section
namespace Go.Proofs.Ytcaapedadpnjoaa
open Go.Ev
def inR (a b c : Int) : Bool := decide (b ≤ a) && decide (a ≤ c)
theorem qh7 {a b c : Int} : inR a b c = true ↔ b ≤ a ∧ a ≤ c := by simp [inR]
theorem qct (k : Nat) (hk : 2000000 ≤ k) (a : Int) (b : Int) (c : Int) : go (k + 1) spec_l01In [(.int .i64 (a)), (.int .i64 (b)), (.int .i64 (c))] = some [.bool (inR a b c)] := by
  rw [qgp]; unfold inR; cases decide (b ≤ a) <;> rfl
theorem qby (k : Nat) (hk : 2000000 ≤ k) (a : Int) (b : Int) (c : Int) : go (k + 1) impl_within [(.int .i64 (a)), (.int .i64 (b)), (.int .i64 (c))] = some [.bool (inR a b c)] := by
  rw [qfu]; unfold inR; cases decide (b ≤ a) <;> rfl
def pow2 (l : Int) : Int := 2 ^ l.toNat
def idOk (r l i : Int) : Bool := inR r 0 7 && (inR l 0 4 && (decide (0 ≤ i) && decide (i < pow2 l)))
theorem lev {l : Int} (h : inR l 0 4 = true) : l = 0 ∨ l = 1 ∨ l = 2 ∨ l = 3 ∨ l = 4 := by
  simp only [inR, Bool.and_eq_true, decide_eq_true_eq] at h; omega
theorem p20 : pow2 0 = 1 := rfl
theorem p21 : pow2 1 = 2 := rfl
theorem p22 : pow2 2 = 4 := rfl
theorem p23 : pow2 3 = 8 := rfl
theorem p24 : pow2 4 = 16 := rfl
theorem sh0 : shiftN .i64 0 = 0 := by decide
theorem sh1 : shiftN .i64 1 = 1 := by decide
theorem sh2 : shiftN .i64 2 = 2 := by decide
theorem sh3 : shiftN .i64 3 = 3 := by decide
theorem sh4 : shiftN .i64 4 = 4 := by decide
theorem pw {l : Int} (h : inR l 0 4 = true) : IntKind.wrap .i64 ((1 : Int) * (2 : Int) ^ shiftN .i64 l) = pow2 l := by
  rcases lev h with rfl | rfl | rfl | rfl | rfl <;> simp [sh0, sh1, sh2, sh3, sh4, qpp, p20, p21, p22, p23, p24]
theorem lev0 {l : Int} (h : inR l 0 4 = true) : 0 ≤ l ∧ l ≤ 4 := by
  simp only [inR, Bool.and_eq_true, decide_eq_true_eq] at h; omega
theorem qlv {l : Int} (h : inR l 0 4 = true) : 1 ≤ pow2 l ∧ pow2 l ≤ 16 := by
  rcases lev h with rfl | rfl | rfl | rfl | rfl <;> simp [p20, p21, p22, p23, p24]
theorem qb8 (k : Nat) (hk : 2000000 ≤ k) (a0 : Int) (a1 : Int) (a2 : Int) : go (k + 2) spec_IdOk [(.agg [(.int .i64 (a0)), (.int .i64 (a1)), (.int .i64 (a2))])] = some [.bool (idOk a0 a1 a2)] := by
  rw [qf7]
  simp (disch := omega) only [qaz, nth0, nth1, nth2, nth3, bit, qdu, qdv, qd6, qeb, qec, qed, qee, qef, qeg, qeh, qdw, qdx, qdy, qdz, qd0, qd1, qd2, qd3, qd4, qd5, qd7, qd8, qd9, qea, qo2, qo1, qo3, qlg, ql2, ql3, qh9, qa5, qod, nI, qet, qer, Bool.not_true, Bool.not_false, Bool.and_true, Bool.true_and, Bool.and_false, Bool.false_and, Bool.or_true, Bool.true_or, Bool.or_false, Bool.false_or, beq_self_eq_true, dTT, dFF, dT, dF, bigI, big0, qlf, qpp, qpq, List.length_set, List.length_replicate, Int.toNat_natCast, qds, qdt, imax, imin, qct]
  unfold idOk
  cases h1 : inR a0 0 7 <;> cases h2 : inR a1 0 4 <;> simp only [qet, qer, Bool.true_and, Bool.false_and, Bool.and_false]
  have := lev0 h2
  rw [qpq (x := a1) (by omega) (by omega), pw h2]
  by_cases h3 : (0 : Int) ≤ a2
  · simp [h3, this.1]
  · simp [h3]
theorem qbt (k : Nat) (hk : 2000000 ≤ k) (a : Int) : go (k + 2) impl_isLevel [(.int .i64 (a))] = some [.bool (inR a 0 4)] := by
  rw [qfq]
  simp (disch := omega) only [qaz, nth0, nth1, nth2, nth3, bit, qdu, qdv, qd6, qeb, qec, qed, qee, qef, qeg, qeh, qdw, qdx, qdy, qdz, qd0, qd1, qd2, qd3, qd4, qd5, qd7, qd8, qd9, qea, qo2, qo1, qo3, qlg, ql2, ql3, qh9, qa5, qod, nI, qet, qer, Bool.not_true, Bool.not_false, Bool.and_true, Bool.true_and, Bool.and_false, Bool.false_and, Bool.or_true, Bool.true_or, Bool.or_false, Bool.false_or, beq_self_eq_true, dTT, dFF, dT, dF, bigI, big0, qlf, qpp, qpq, List.length_set, List.length_replicate, Int.toNat_natCast, qds, qdt, imax, imin, qby]
theorem qbd (k : Nat) (hk : 2000000 ≤ k) (a0 : Int) (a1 : Int) (a2 : Int) : go (k + 3) impl_IdOk [(.agg [(.int .i64 (a0)), (.int .i64 (a1)), (.int .i64 (a2))])] = some [.bool (idOk a0 a1 a2)] := by
  rw [qe9]
  simp (disch := omega) only [qaz, nth0, nth1, nth2, nth3, bit, qdu, qdv, qd6, qeb, qec, qed, qee, qef, qeg, qeh, qdw, qdx, qdy, qdz, qd0, qd1, qd2, qd3, qd4, qd5, qd7, qd8, qd9, qea, qo2, qo1, qo3, qlg, ql2, ql3, qh9, qa5, qod, nI, qet, qer, Bool.not_true, Bool.not_false, Bool.and_true, Bool.true_and, Bool.and_false, Bool.false_and, Bool.or_true, Bool.true_or, Bool.or_false, Bool.false_or, beq_self_eq_true, dTT, dFF, dT, dF, bigI, big0, qlf, qpp, qpq, List.length_set, List.length_replicate, Int.toNat_natCast, qds, qdt, imax, imin, qby, qbt]
  unfold idOk
  cases h1 : inR a0 0 7 <;> cases h2 : inR a1 0 4 <;> simp only [qet, qer, Bool.true_and, Bool.false_and, Bool.and_false]
  have := lev0 h2
  have := qlv h2
  rw [pw h2, qpp (x := pow2 a1 - 1) (by omega) (by omega)]
  rw [show decide ((0 : Int) ≤ a1) = true by simp; omega, qet]
  have e : inR a2 0 (pow2 a1 - 1) = (decide (0 ≤ a2) && decide (a2 < pow2 a1)) := by
    unfold inR; rw [Bool.eq_iff_iff]; simp only [Bool.and_eq_true, decide_eq_true_eq]; omega
  rw [e]
def qpj (l : Int) : Int := if inR l 0 4 then 16 / pow2 l else 0
theorem qcn (k : Nat) (hk : 2000000 ≤ k) (a : Int) : go (k + 2) spec_WidthOf [(.int .i64 (a))] = some [.int .i64 (qpj a)] := by
  rw [qgm]
  simp (disch := omega) only [qaz, nth0, nth1, nth2, nth3, bit, qdu, qdv, qd6, qeb, qec, qed, qee, qef, qeg, qeh, qdw, qdx, qdy, qdz, qd0, qd1, qd2, qd3, qd4, qd5, qd7, qd8, qd9, qea, qo2, qo1, qo3, qlg, ql2, ql3, qh9, qa5, qod, nI, qet, qer, Bool.not_true, Bool.not_false, Bool.and_true, Bool.true_and, Bool.and_false, Bool.false_and, Bool.or_true, Bool.true_or, Bool.or_false, Bool.false_or, beq_self_eq_true, dTT, dFF, dT, dF, bigI, big0, qlf, qpp, qpq, List.length_set, List.length_replicate, Int.toNat_natCast, qds, qdt, imax, imin, qct, qpj]
  cases h2 : inR a 0 4
  · simp
  · rcases lev h2 with rfl | rfl | rfl | rfl | rfl <;> simp [qpq, sh0, sh1, sh2, sh3, sh4, p20, p21, p22, p23, p24] <;> decide
theorem qbl (k : Nat) (hk : 2000000 ≤ k) (a : Int) : go (k + 3) impl_WidthOf [(.int .i64 (a))] = some [.int .i64 (qpj a)] := by
  rw [qfk]
  simp (disch := omega) only [qaz, nth0, nth1, nth2, nth3, bit, qdu, qdv, qd6, qeb, qec, qed, qee, qef, qeg, qeh, qdw, qdx, qdy, qdz, qd0, qd1, qd2, qd3, qd4, qd5, qd7, qd8, qd9, qea, qo2, qo1, qo3, qlg, ql2, ql3, qh9, qa5, qod, nI, qet, qer, Bool.not_true, Bool.not_false, Bool.and_true, Bool.true_and, Bool.and_false, Bool.false_and, Bool.or_true, Bool.true_or, Bool.or_false, Bool.false_or, beq_self_eq_true, dTT, dFF, dT, dF, bigI, big0, qlf, qpp, qpq, List.length_set, List.length_replicate, Int.toNat_natCast, qds, qdt, imax, imin, qbt, qpj]
  cases h2 : inR a 0 4
  · simp
  · rcases lev h2 with rfl | rfl | rfl | rfl | rfl <;> simp [qpq, sh0, sh1, sh2, sh3, sh4, p20, p21, p22, p23, p24] <;> decide
def qn4 (r l i : Int) : Int := if idOk r l i then r * 16 + i * qpj l else -1
theorem qpl (l : Int) : 0 ≤ qpj l ∧ qpj l ≤ 16 := by
  unfold qpj
  cases h : inR l 0 4
  · simp
  · rcases lev h with rfl | rfl | rfl | rfl | rfl <;> decide
theorem qh6 {r l i : Int} (h : idOk r l i = true) : 0 ≤ r ∧ r ≤ 7 ∧ inR l 0 4 = true ∧ 0 ≤ i ∧ i < pow2 l := by
  simp only [idOk, Bool.and_eq_true, decide_eq_true_eq] at h
  obtain ⟨h1, h2, h3, h4⟩ := h
  simp only [inR, Bool.and_eq_true, decide_eq_true_eq] at h1
  exact ⟨h1.1, h1.2, h2, h3, h4⟩
theorem iw {r l i : Int} (h : idOk r l i = true) : 0 ≤ i * qpj l ∧ i * qpj l ≤ 256 := by
  obtain ⟨_, _, h2, h3, h4⟩ := qh6 h
  have h5 := (qlv h2).2
  have h6 := qpl l
  have h7 : i ≤ 16 := by omega
  refine ⟨Int.mul_nonneg h3 h6.1, ?_⟩
  calc i * qpj l ≤ 16 * qpj l := Int.mul_le_mul_of_nonneg_right h7 h6.1
    _ ≤ 16 * 16 := Int.mul_le_mul_of_nonneg_left h6.2 (by omega)
theorem qn5 (r l i : Int) : -1 ≤ qn4 r l i ∧ qn4 r l i ≤ 1000 := by
  unfold qn4
  cases h : idOk r l i
  · simp
  · have := iw h; have := qh6 h
    simp; omega
theorem qn7 {r l i : Int} (h : idOk r l i = true) : IntKind.wrap .i64 (IntKind.wrap .i64 (r * (16 : Int)) + IntKind.wrap .i64 (i * qpj l)) = qn4 r l i := by
  have h1 := iw h; have h2 := qh6 h
  rw [qpp (x := r * 16) (by omega) (by omega), qpp (x := i * qpj l) (by omega) (by omega), qpp (by omega) (by omega)]
  simp [qn4, h]
theorem qcl (k : Nat) (hk : 2000000 ≤ k) (a0 : Int) (a1 : Int) (a2 : Int) : go (k + 3) spec_StartOf [(.agg [(.int .i64 (a0)), (.int .i64 (a1)), (.int .i64 (a2))])] = some [.int .i64 (qn4 a0 a1 a2)] := by
  rw [qgk]
  simp (disch := omega) only [qaz, nth0, nth1, nth2, nth3, bit, qdu, qdv, qd6, qeb, qec, qed, qee, qef, qeg, qeh, qdw, qdx, qdy, qdz, qd0, qd1, qd2, qd3, qd4, qd5, qd7, qd8, qd9, qea, qo2, qo1, qo3, qlg, ql2, ql3, qh9, qa5, qod, nI, qet, qer, Bool.not_true, Bool.not_false, Bool.and_true, Bool.true_and, Bool.and_false, Bool.false_and, Bool.or_true, Bool.true_or, Bool.or_false, Bool.false_or, beq_self_eq_true, dTT, dFF, dT, dF, bigI, big0, qlf, qpp, qpq, List.length_set, List.length_replicate, Int.toNat_natCast, qds, qdt, imax, imin, qb8, qcn]
  cases h : idOk a0 a1 a2
  · simp [qn4, h]
  · rw [qn7 h]; rfl
theorem qbi (k : Nat) (hk : 2000000 ≤ k) (a0 : Int) (a1 : Int) (a2 : Int) : go (k + 4) impl_StartOf [(.agg [(.int .i64 (a0)), (.int .i64 (a1)), (.int .i64 (a2))])] = some [.int .i64 (qn4 a0 a1 a2)] := by
  rw [qff]
  simp (disch := omega) only [qaz, nth0, nth1, nth2, nth3, bit, qdu, qdv, qd6, qeb, qec, qed, qee, qef, qeg, qeh, qdw, qdx, qdy, qdz, qd0, qd1, qd2, qd3, qd4, qd5, qd7, qd8, qd9, qea, qo2, qo1, qo3, qlg, ql2, ql3, qh9, qa5, qod, nI, qet, qer, Bool.not_true, Bool.not_false, Bool.and_true, Bool.true_and, Bool.and_false, Bool.false_and, Bool.or_true, Bool.true_or, Bool.or_false, Bool.false_or, beq_self_eq_true, dTT, dFF, dT, dF, bigI, big0, qlf, qpp, qpq, List.length_set, List.length_replicate, Int.toNat_natCast, qds, qdt, imax, imin, qbd, qbl]
  cases h : idOk a0 a1 a2
  · simp [qn4, h]
  · rw [qn7 h]; rfl
theorem qhq (r l i : Int) : IntKind.wrap .i64 (qn4 r l i + qpj l) = qn4 r l i + qpj l := by
  have h1 := qn5 r l i; have h2 := qpl l
  exact qpp (by omega) (by omega)
theorem qcw (k : Nat) (hk : 2000000 ≤ k) (a0 : Int) (a1 : Int) (a2 : Int) : go (k + 4) spec_l04End [(.agg [(.int .i64 (a0)), (.int .i64 (a1)), (.int .i64 (a2))])] = some [.int .i64 (qn4 a0 a1 a2 + qpj a1)] := by
  rw [qgs]
  simp (disch := omega) only [qaz, nth0, nth1, nth2, nth3, bit, qdu, qdv, qd6, qeb, qec, qed, qee, qef, qeg, qeh, qdw, qdx, qdy, qdz, qd0, qd1, qd2, qd3, qd4, qd5, qd7, qd8, qd9, qea, qo2, qo1, qo3, qlg, ql2, ql3, qh9, qa5, qod, nI, qet, qer, Bool.not_true, Bool.not_false, Bool.and_true, Bool.true_and, Bool.and_false, Bool.false_and, Bool.or_true, Bool.true_or, Bool.or_false, Bool.false_or, beq_self_eq_true, dTT, dFF, dT, dF, bigI, big0, qlf, qpp, qpq, List.length_set, List.length_replicate, Int.toNat_natCast, qds, qdt, imax, imin, qcl, qcn, qhq]
theorem qbp (k : Nat) (hk : 2000000 ≤ k) (a0 : Int) (a1 : Int) (a2 : Int) : go (k + 5) impl_endOf [(.agg [(.int .i64 (a0)), (.int .i64 (a1)), (.int .i64 (a2))])] = some [.int .i64 (qn4 a0 a1 a2 + qpj a1)] := by
  rw [qfo]
  simp (disch := omega) only [qaz, nth0, nth1, nth2, nth3, bit, qdu, qdv, qd6, qeb, qec, qed, qee, qef, qeg, qeh, qdw, qdx, qdy, qdz, qd0, qd1, qd2, qd3, qd4, qd5, qd7, qd8, qd9, qea, qo2, qo1, qo3, qlg, ql2, ql3, qh9, qa5, qod, nI, qet, qer, Bool.not_true, Bool.not_false, Bool.and_true, Bool.true_and, Bool.and_false, Bool.false_and, Bool.or_true, Bool.true_or, Bool.or_false, Bool.false_or, beq_self_eq_true, dTT, dFF, dT, dF, bigI, big0, qlf, qpp, qpq, List.length_set, List.length_replicate, Int.toNat_natCast, qds, qdt, imax, imin, qbi, qbl, qhq]
abbrev Cell := Int × Int × Int
def qk3 (roots : Int) : Int → List Cell → Bool
  | pos, [] => inR roots 1 8 && decide (pos = roots * 16)
  | pos, x :: rest => idOk x.1 x.2.1 x.2.2 && (decide (qn4 x.1 x.2.1 x.2.2 = pos) && qk3 roots (qn4 x.1 x.2.1 x.2.2 + qpj x.2.1) rest)
theorem qk6 (roots pos : Int) : cond (inR roots 1 8) (some [D.bool (decide (pos = IntKind.wrap .i64 (roots * (16 : Int))))]) (some [D.bool false]) = some [D.bool (qk3 roots pos [])] := by
  unfold qk3
  cases h : inR roots 1 8
  · rfl
  · simp only [inR, Bool.and_eq_true, decide_eq_true_eq] at h
    rw [qpp (by omega) (by omega)]; rfl
theorem qkc (k : Nat) (hk : 2000000 ≤ k) (fu : List (Nat × Nat)) (z : Bool) (l : List Cell) (roots : Int) (hl : (l.length : Int) ≤ 1048576) : ∀ (n i : Nat) (pos : Int), i ≤ l.length → l.length - i < n →
    lp (k + 4) spec_MeshOk [] fu 3 (n) (qmu pos (i : Int) z l roots) = some [.bool (qk3 roots pos (l.drop i))]
  | 0, i, pos, hi, hn => by omega
  | n + 1, i, pos, hi, hn => by
    rw [qi0]
    by_cases h : i < l.length
    · rw [qe3 h zz3]
      simp (disch := omega) only [qaz, nth0, nth1, nth2, nth3, bit, qdu, qdv, qd6, qeb, qec, qed, qee, qef, qeg, qeh, qdw, qdx, qdy, qdz, qd0, qd1, qd2, qd3, qd4, qd5, qd7, qd8, qd9, qea, qo2, qo1, qo3, qlg, ql2, ql3, qh9, qa5, qod, nI, qet, qer, Bool.not_true, Bool.not_false, Bool.and_true, Bool.true_and, Bool.and_false, Bool.false_and, Bool.or_true, Bool.true_or, Bool.or_false, Bool.false_or, beq_self_eq_true, dTT, dFF, dT, dF, bigI, big0, qlf, qpp, qpq, List.length_set, List.length_replicate, Int.toNat_natCast, qds, qdt, imax, imin, qb8, qcl, qcw, qk3]
      rw [qkc k hk fu z l roots hl n (i + 1) _ (by omega) (by omega)]
      simp only [qeu, qev, Bool.and_assoc]
    · rw [List.drop_of_length_le (by omega)]
      simp (disch := omega) only [qaz, nth0, nth1, nth2, nth3, bit, qdu, qdv, qd6, qeb, qec, qed, qee, qef, qeg, qeh, qdw, qdx, qdy, qdz, qd0, qd1, qd2, qd3, qd4, qd5, qd7, qd8, qd9, qea, qo2, qo1, qo3, qlg, ql2, ql3, qh9, qa5, qod, nI, qet, qer, Bool.not_true, Bool.not_false, Bool.and_true, Bool.true_and, Bool.and_false, Bool.false_and, Bool.or_true, Bool.true_or, Bool.or_false, Bool.false_or, beq_self_eq_true, dTT, dFF, dT, dF, bigI, big0, qlf, qpp, qpq, List.length_set, List.length_replicate, Int.toNat_natCast, qds, qdt, imax, imin, qct]
      exact qk6 roots pos
theorem qcf (k : Nat) (hk : 2000000 ≤ k) (a0 : Int) (a1z : Bool) (a1 : List (Int × Int × Int)) (hl : (a1.length : Int) ≤ 1048576) : go (k + 5) spec_MeshOk [(.agg [(.int .i64 (a0)), (.arr false (a1z) (.r3 (a1)))])] = some [.bool (qk3 a0 0 a1)] := by
  rw [qge]
  exact qkc k hk _ _ a1 a0 hl _ 0 0 (by omega) (by omega)
theorem qj1 (k : Nat) (hk : 2000000 ≤ k) (fu : List (Nat × Nat)) (z : Bool) (l : List Cell) (roots : Int) (hl : (l.length : Int) ≤ 1048576) : ∀ (n i : Nat) (pos : Int), i ≤ l.length → l.length - i < n →
    lp (k + 5) impl_MeshOk [] fu 3 (n) (qmj pos (l.length : Int) (i : Int) z l roots) = some [.bool (qk3 roots pos (l.drop i))]
  | 0, i, pos, hi, hn => by omega
  | n + 1, i, pos, hi, hn => by
    rw [qip]
    by_cases h : i < l.length
    · rw [qe3 h zz3]
      simp (disch := omega) only [qaz, nth0, nth1, nth2, nth3, bit, qdu, qdv, qd6, qeb, qec, qed, qee, qef, qeg, qeh, qdw, qdx, qdy, qdz, qd0, qd1, qd2, qd3, qd4, qd5, qd7, qd8, qd9, qea, qo2, qo1, qo3, qlg, ql2, ql3, qh9, qa5, qod, nI, qet, qer, Bool.not_true, Bool.not_false, Bool.and_true, Bool.true_and, Bool.and_false, Bool.false_and, Bool.or_true, Bool.true_or, Bool.or_false, Bool.false_or, beq_self_eq_true, dTT, dFF, dT, dF, bigI, big0, qlf, qpp, qpq, List.length_set, List.length_replicate, Int.toNat_natCast, qds, qdt, imax, imin, qbd, qbi, qbp, qk3]
      rw [qj1 k hk fu z l roots hl n (i + 1) _ (by omega) (by omega)]
      simp only [qeu, qev, Bool.and_assoc]
    · rw [List.drop_of_length_le (by omega)]
      simp (disch := omega) only [qaz, nth0, nth1, nth2, nth3, bit, qdu, qdv, qd6, qeb, qec, qed, qee, qef, qeg, qeh, qdw, qdx, qdy, qdz, qd0, qd1, qd2, qd3, qd4, qd5, qd7, qd8, qd9, qea, qo2, qo1, qo3, qlg, ql2, ql3, qh9, qa5, qod, nI, qet, qer, Bool.not_true, Bool.not_false, Bool.and_true, Bool.true_and, Bool.and_false, Bool.false_and, Bool.or_true, Bool.true_or, Bool.or_false, Bool.false_or, beq_self_eq_true, dTT, dFF, dT, dF, bigI, big0, qlf, qpp, qpq, List.length_set, List.length_replicate, Int.toNat_natCast, qds, qdt, imax, imin, qby]
      exact qk6 roots pos
theorem qbf (k : Nat) (hk : 2000000 ≤ k) (a0 : Int) (a1z : Bool) (a1 : List (Int × Int × Int)) (hl : (a1.length : Int) ≤ 1048576) : go (k + 6) impl_MeshOk [(.agg [(.int .i64 (a0)), (.arr false (a1z) (.r3 (a1)))])] = some [.bool (qk3 a0 0 a1)] := by
  rw [qfb]
  exact qj1 k hk _ _ a1 a0 hl _ 0 0 (by omega) (by omega)
theorem qh1 (r n : Nat) (fu : List (Nat × Nat)) : fuelOf ((r, n) :: fu) r = n := by simp [fuelOf, find]
end Go.Proofs.Ytcaapedadpnjoaa
end
section
namespace Go.Proofs.Ytcaapedadpnjoaa
open Go.Ev
theorem qes {α : Type} (a : Bool) (x y : α) : cond (!a) x y = cond a y x := by cases a <;> rfl
theorem qeq {α : Type} (a b : Bool) (x y : α) : cond a (cond b x y) y = cond (a && b) x y := by cases a <;> rfl
abbrev qjk (l : List Cell) (i : Nat) : Int := (l.getD i zz3).2.1
def qab (l : List Cell) : Prop := ∀ i, 0 ≤ qjk l i ∧ qjk l i ≤ 4
theorem qk9 : ∀ (l : List Cell) (r p : Int), qk3 r p l = true → ∀ i, 0 ≤ qjk l i ∧ qjk l i ≤ 4
  | [], r, p, h, i => by simp [qjk]
  | x :: l, r, p, h, i => by
    simp only [qk3, Bool.and_eq_true] at h
    cases i with
    | zero => have := lev0 (qh6 h.1).2.2.1; simpa [qjk] using this
    | succ i => have := qk9 l r _ h.2.2 i; simpa [qjk] using this
def qo4 (l : List Cell) : Nat → Nat → Int
  | 0, _ => -1
  | n + 1, i => if 1 < qjk l i - qjk l (i + 1) ∨ qjk l i - qjk l (i + 1) < -1 then (i : Int) else qo4 l n (i + 1)
def unb (l : List Cell) : Int := qo4 l (l.length - 1) 0
theorem qbn (k : Nat) (hk : 2000000 ≤ k) (a : Int) (h : -9223372036854775807 ≤ a) (h' : a ≤ 9223372036854775807) : go (k + 1) impl_absolute [(.int .i64 (a))] = some [.int .i64 (max (0 - a) a)] := by
  rw [qfm]; simp (disch := omega) only [qaz, nth0, nth1, nth2, nth3, bit, qdu, qdv, qd6, qeb, qec, qed, qee, qef, qeg, qeh, qdw, qdx, qdy, qdz, qd0, qd1, qd2, qd3, qd4, qd5, qd7, qd8, qd9, qea, qo2, qo1, qo3, qlg, ql2, ql3, qh9, qa5, qod, nI, qet, qer, Bool.not_true, Bool.not_false, Bool.and_true, Bool.true_and, Bool.and_false, Bool.false_and, Bool.or_true, Bool.true_or, Bool.or_false, Bool.false_or, beq_self_eq_true, dTT, dFF, dT, dF, bigI, big0, qlf, qpp, qpq, List.length_set, List.length_replicate, Int.toNat_natCast, qds, qdt, imax, imin]
theorem qkk (k : Nat) (hk : 2000000 ≤ k) (fu : List (Nat × Nat)) (z : Bool) (l : List Cell) (r : Int) (hl : (l.length : Int) ≤ 1048576) (hv : qab l) : ∀ (n i : Nat), i ≤ l.length → l.length - 1 - i < n →
    lp k spec_l05First [] fu 2 (n) (qmz (i : Int) z l r) = some [.int .i64 (qo4 l (l.length - 1 - i) i)]
  | 0, i, hi, hn => by omega
  | n + 1, i, hi, hn => by
    rw [qi5]
    by_cases h : i + 1 < l.length
    · have e := qkk k hk fu z l r hl hv n (i + 1) (by omega) (by omega)
      have h1 := hv i; have h2 := hv (i + 1)
      simp only [qjk] at h1 h2
      simp (disch := omega) only [qaz, nth0, nth1, nth2, nth3, bit, qdu, qdv, qd6, qeb, qec, qed, qee, qef, qeg, qeh, qdw, qdx, qdy, qdz, qd0, qd1, qd2, qd3, qd4, qd5, qd7, qd8, qd9, qea, qo2, qo1, qo3, qlg, ql2, ql3, qh9, qa5, qod, nI, qet, qer, Bool.not_true, Bool.not_false, Bool.and_true, Bool.true_and, Bool.and_false, Bool.false_and, Bool.or_true, Bool.true_or, Bool.or_false, Bool.false_or, beq_self_eq_true, dTT, dFF, dT, dF, bigI, big0, qlf, qpp, qpq, List.length_set, List.length_replicate, Int.toNat_natCast, qds, qdt, imax, imin, e]
      rw [show l.length - 1 - i = (l.length - 1 - (i + 1)) + 1 by omega, qo4]
      simp only [qjk]
      by_cases g : 1 < (l.getD i zz3).2.1 - (l.getD (i + 1) zz3).2.1
      · simp (disch := omega) only [qaz, nth0, nth1, nth2, nth3, bit, qdu, qdv, qd6, qeb, qec, qed, qee, qef, qeg, qeh, qdw, qdx, qdy, qdz, qd0, qd1, qd2, qd3, qd4, qd5, qd7, qd8, qd9, qea, qo2, qo1, qo3, qlg, ql2, ql3, qh9, qa5, qod, nI, qet, qer, Bool.not_true, Bool.not_false, Bool.and_true, Bool.true_and, Bool.and_false, Bool.false_and, Bool.or_true, Bool.true_or, Bool.or_false, Bool.false_or, beq_self_eq_true, dTT, dFF, dT, dF, bigI, big0, qlf, qpp, qpq, List.length_set, List.length_replicate, Int.toNat_natCast, qds, qdt, imax, imin]; rw [if_pos (Or.inl g)]
      · by_cases g2 : (l.getD i zz3).2.1 - (l.getD (i + 1) zz3).2.1 < -1
        · simp (disch := omega) only [qaz, nth0, nth1, nth2, nth3, bit, qdu, qdv, qd6, qeb, qec, qed, qee, qef, qeg, qeh, qdw, qdx, qdy, qdz, qd0, qd1, qd2, qd3, qd4, qd5, qd7, qd8, qd9, qea, qo2, qo1, qo3, qlg, ql2, ql3, qh9, qa5, qod, nI, qet, qer, Bool.not_true, Bool.not_false, Bool.and_true, Bool.true_and, Bool.and_false, Bool.false_and, Bool.or_true, Bool.true_or, Bool.or_false, Bool.false_or, beq_self_eq_true, dTT, dFF, dT, dF, bigI, big0, qlf, qpp, qpq, List.length_set, List.length_replicate, Int.toNat_natCast, qds, qdt, imax, imin]; rw [if_pos (Or.inr g2)]
        · simp (disch := omega) only [qaz, nth0, nth1, nth2, nth3, bit, qdu, qdv, qd6, qeb, qec, qed, qee, qef, qeg, qeh, qdw, qdx, qdy, qdz, qd0, qd1, qd2, qd3, qd4, qd5, qd7, qd8, qd9, qea, qo2, qo1, qo3, qlg, ql2, ql3, qh9, qa5, qod, nI, qet, qer, Bool.not_true, Bool.not_false, Bool.and_true, Bool.true_and, Bool.and_false, Bool.false_and, Bool.or_true, Bool.true_or, Bool.or_false, Bool.false_or, beq_self_eq_true, dTT, dFF, dT, dF, bigI, big0, qlf, qpp, qpq, List.length_set, List.length_replicate, Int.toNat_natCast, qds, qdt, imax, imin]; rw [if_neg (not_or.2 ⟨g, g2⟩)]
    · simp (disch := omega) only [qaz, nth0, nth1, nth2, nth3, bit, qdu, qdv, qd6, qeb, qec, qed, qee, qef, qeg, qeh, qdw, qdx, qdy, qdz, qd0, qd1, qd2, qd3, qd4, qd5, qd7, qd8, qd9, qea, qo2, qo1, qo3, qlg, ql2, ql3, qh9, qa5, qod, nI, qet, qer, Bool.not_true, Bool.not_false, Bool.and_true, Bool.true_and, Bool.and_false, Bool.false_and, Bool.or_true, Bool.true_or, Bool.or_false, Bool.false_or, beq_self_eq_true, dTT, dFF, dT, dF, bigI, big0, qlf, qpp, qpq, List.length_set, List.length_replicate, Int.toNat_natCast, qds, qdt, imax, imin]
      rw [show l.length - 1 - i = 0 by omega]; rfl
theorem qc1 (k : Nat) (hk : 2000000 ≤ k) (a0 : Int) (a1z : Bool) (a1 : List (Int × Int × Int)) (hl : (a1.length : Int) ≤ 1048576) (hv : qab a1) : go (k + 1) spec_l05First [(.agg [(.int .i64 (a0)), (.arr false (a1z) (.r3 (a1)))])] = some [.int .i64 (unb a1)] := by
  rw [qgx]
  exact qkk k hk [] a1z a1 a0 hl hv _ 0 (by omega) (by omega)
theorem qj3 (k : Nat) (hk : 2000000 ≤ k) (fu : List (Nat × Nat)) (z : Bool) (l : List Cell) (r : Int) (hl : (l.length : Int) ≤ 1048576) (hv : qab l) : ∀ (n i : Nat), i ≤ l.length → l.length - 1 - i < n →
    lp (k + 1) impl_Mesh_unbalanced [] fu 2 (n) (qmk ((l.length : Int) - 1) (i : Int) z l r) = some [.int .i64 (qo4 l (l.length - 1 - i) i)]
  | 0, i, hi, hn => by omega
  | n + 1, i, hi, hn => by
    rw [qiq]
    by_cases h : i + 1 < l.length
    · have e := qj3 k hk fu z l r hl hv n (i + 1) (by omega) (by omega)
      have h1 := hv i; have h2 := hv (i + 1)
      simp only [qjk] at h1 h2
      simp (disch := omega) only [qaz, nth0, nth1, nth2, nth3, bit, qdu, qdv, qd6, qeb, qec, qed, qee, qef, qeg, qeh, qdw, qdx, qdy, qdz, qd0, qd1, qd2, qd3, qd4, qd5, qd7, qd8, qd9, qea, qo2, qo1, qo3, qlg, ql2, ql3, qh9, qa5, qod, nI, qet, qer, Bool.not_true, Bool.not_false, Bool.and_true, Bool.true_and, Bool.and_false, Bool.false_and, Bool.or_true, Bool.true_or, Bool.or_false, Bool.false_or, beq_self_eq_true, dTT, dFF, dT, dF, bigI, big0, qlf, qpp, qpq, List.length_set, List.length_replicate, Int.toNat_natCast, qds, qdt, imax, imin, e, qbn]
      rw [show l.length - 1 - i = (l.length - 1 - (i + 1)) + 1 by omega, qo4]
      simp only [qjk]
      by_cases g : 1 < (l.getD i zz3).2.1 - (l.getD (i + 1) zz3).2.1
      · simp (disch := omega) only [qaz, nth0, nth1, nth2, nth3, bit, qdu, qdv, qd6, qeb, qec, qed, qee, qef, qeg, qeh, qdw, qdx, qdy, qdz, qd0, qd1, qd2, qd3, qd4, qd5, qd7, qd8, qd9, qea, qo2, qo1, qo3, qlg, ql2, ql3, qh9, qa5, qod, nI, qet, qer, Bool.not_true, Bool.not_false, Bool.and_true, Bool.true_and, Bool.and_false, Bool.false_and, Bool.or_true, Bool.true_or, Bool.or_false, Bool.false_or, beq_self_eq_true, dTT, dFF, dT, dF, bigI, big0, qlf, qpp, qpq, List.length_set, List.length_replicate, Int.toNat_natCast, qds, qdt, imax, imin]; rw [if_pos (Or.inl g)]
      · by_cases g2 : (l.getD i zz3).2.1 - (l.getD (i + 1) zz3).2.1 < -1
        · simp (disch := omega) only [qaz, nth0, nth1, nth2, nth3, bit, qdu, qdv, qd6, qeb, qec, qed, qee, qef, qeg, qeh, qdw, qdx, qdy, qdz, qd0, qd1, qd2, qd3, qd4, qd5, qd7, qd8, qd9, qea, qo2, qo1, qo3, qlg, ql2, ql3, qh9, qa5, qod, nI, qet, qer, Bool.not_true, Bool.not_false, Bool.and_true, Bool.true_and, Bool.and_false, Bool.false_and, Bool.or_true, Bool.true_or, Bool.or_false, Bool.false_or, beq_self_eq_true, dTT, dFF, dT, dF, bigI, big0, qlf, qpp, qpq, List.length_set, List.length_replicate, Int.toNat_natCast, qds, qdt, imax, imin]; rw [if_pos (Or.inr g2)]
        · simp (disch := omega) only [qaz, nth0, nth1, nth2, nth3, bit, qdu, qdv, qd6, qeb, qec, qed, qee, qef, qeg, qeh, qdw, qdx, qdy, qdz, qd0, qd1, qd2, qd3, qd4, qd5, qd7, qd8, qd9, qea, qo2, qo1, qo3, qlg, ql2, ql3, qh9, qa5, qod, nI, qet, qer, Bool.not_true, Bool.not_false, Bool.and_true, Bool.true_and, Bool.and_false, Bool.false_and, Bool.or_true, Bool.true_or, Bool.or_false, Bool.false_or, beq_self_eq_true, dTT, dFF, dT, dF, bigI, big0, qlf, qpp, qpq, List.length_set, List.length_replicate, Int.toNat_natCast, qds, qdt, imax, imin]; rw [if_neg (not_or.2 ⟨g, g2⟩)]
    · simp (disch := omega) only [qaz, nth0, nth1, nth2, nth3, bit, qdu, qdv, qd6, qeb, qec, qed, qee, qef, qeg, qeh, qdw, qdx, qdy, qdz, qd0, qd1, qd2, qd3, qd4, qd5, qd7, qd8, qd9, qea, qo2, qo1, qo3, qlg, ql2, ql3, qh9, qa5, qod, nI, qet, qer, Bool.not_true, Bool.not_false, Bool.and_true, Bool.true_and, Bool.and_false, Bool.false_and, Bool.or_true, Bool.true_or, Bool.or_false, Bool.false_or, beq_self_eq_true, dTT, dFF, dT, dF, bigI, big0, qlf, qpp, qpq, List.length_set, List.length_replicate, Int.toNat_natCast, qds, qdt, imax, imin]
      rw [show l.length - 1 - i = 0 by omega]; rfl
theorem qbx (k : Nat) (hk : 2000000 ≤ k) (a0 : Int) (a1z : Bool) (a1 : List (Int × Int × Int)) (hl : (a1.length : Int) ≤ 1048576) (hv : qab a1) : go (k + 2) impl_Mesh_unbalanced [(.agg [(.int .i64 (a0)), (.arr false (a1z) (.r3 (a1)))])] = some [.int .i64 (unb a1)] := by
  rw [qfc]
  simp (disch := omega) only [qaz, nth0, nth1, nth2, nth3, bit, qdu, qdv, qd6, qeb, qec, qed, qee, qef, qeg, qeh, qdw, qdx, qdy, qdz, qd0, qd1, qd2, qd3, qd4, qd5, qd7, qd8, qd9, qea, qo2, qo1, qo3, qlg, ql2, ql3, qh9, qa5, qod, nI, qet, qer, Bool.not_true, Bool.not_false, Bool.and_true, Bool.true_and, Bool.and_false, Bool.false_and, Bool.or_true, Bool.true_or, Bool.or_false, Bool.false_or, beq_self_eq_true, dTT, dFF, dT, dF, bigI, big0, qlf, qpp, qpq, List.length_set, List.length_replicate, Int.toNat_natCast, qds, qdt, imax, imin]
  exact qj3 k hk [] a1z a1 a0 hl hv _ 0 (by omega) (by omega)
def qau (r : Int) (l : List Cell) : Bool := qk3 r 0 l && decide (unb l < 0)
theorem qca (k : Nat) (hk : 2000000 ≤ k) (a0 : Int) (a1z : Bool) (a1 : List (Int × Int × Int)) (hl : (a1.length : Int) ≤ 1048576) : go (k + 6) spec_IsBalanced [(.agg [(.int .i64 (a0)), (.arr false (a1z) (.r3 (a1)))])] = some [.bool (qau a0 a1)] := by
  rw [qf9]
  simp (disch := omega) only [qaz, nth0, nth1, nth2, nth3, bit, qdu, qdv, qd6, qeb, qec, qed, qee, qef, qeg, qeh, qdw, qdx, qdy, qdz, qd0, qd1, qd2, qd3, qd4, qd5, qd7, qd8, qd9, qea, qo2, qo1, qo3, qlg, ql2, ql3, qh9, qa5, qod, nI, qet, qer, Bool.not_true, Bool.not_false, Bool.and_true, Bool.true_and, Bool.and_false, Bool.false_and, Bool.or_true, Bool.true_or, Bool.or_false, Bool.false_or, beq_self_eq_true, dTT, dFF, dT, dF, bigI, big0, qlf, qpp, qpq, List.length_set, List.length_replicate, Int.toNat_natCast, qds, qdt, imax, imin, qcf]
  unfold qau
  cases h : qk3 a0 0 a1
  · rfl
  · have hv : qab a1 := qk9 _ _ _ h
    simp (disch := omega) only [qaz, nth0, nth1, nth2, nth3, bit, qdu, qdv, qd6, qeb, qec, qed, qee, qef, qeg, qeh, qdw, qdx, qdy, qdz, qd0, qd1, qd2, qd3, qd4, qd5, qd7, qd8, qd9, qea, qo2, qo1, qo3, qlg, ql2, ql3, qh9, qa5, qod, nI, qet, qer, Bool.not_true, Bool.not_false, Bool.and_true, Bool.true_and, Bool.and_false, Bool.false_and, Bool.or_true, Bool.true_or, Bool.or_false, Bool.false_or, beq_self_eq_true, dTT, dFF, dT, dF, bigI, big0, qlf, qpp, qpq, List.length_set, List.length_replicate, Int.toNat_natCast, qds, qdt, imax, imin, qc1 k hk]
    rw [qc1 _ (by omega) _ _ _ hl hv]; simp (disch := omega) only [qaz, nth0, nth1, nth2, nth3, bit, qdu, qdv, qd6, qeb, qec, qed, qee, qef, qeg, qeh, qdw, qdx, qdy, qdz, qd0, qd1, qd2, qd3, qd4, qd5, qd7, qd8, qd9, qea, qo2, qo1, qo3, qlg, ql2, ql3, qh9, qa5, qod, nI, qet, qer, Bool.not_true, Bool.not_false, Bool.and_true, Bool.true_and, Bool.and_false, Bool.false_and, Bool.or_true, Bool.true_or, Bool.or_false, Bool.false_or, beq_self_eq_true, dTT, dFF, dT, dF, bigI, big0, qlf, qpp, qpq, List.length_set, List.length_replicate, Int.toNat_natCast, qds, qdt, imax, imin]
theorem qbe (k : Nat) (hk : 2000000 ≤ k) (a0 : Int) (a1z : Bool) (a1 : List (Int × Int × Int)) (hl : (a1.length : Int) ≤ 1048576) : go (k + 7) impl_IsBalanced [(.agg [(.int .i64 (a0)), (.arr false (a1z) (.r3 (a1)))])] = some [.bool (qau a0 a1)] := by
  rw [qfa]
  simp (disch := omega) only [qaz, nth0, nth1, nth2, nth3, bit, qdu, qdv, qd6, qeb, qec, qed, qee, qef, qeg, qeh, qdw, qdx, qdy, qdz, qd0, qd1, qd2, qd3, qd4, qd5, qd7, qd8, qd9, qea, qo2, qo1, qo3, qlg, ql2, ql3, qh9, qa5, qod, nI, qet, qer, Bool.not_true, Bool.not_false, Bool.and_true, Bool.true_and, Bool.and_false, Bool.false_and, Bool.or_true, Bool.true_or, Bool.or_false, Bool.false_or, beq_self_eq_true, dTT, dFF, dT, dF, bigI, big0, qlf, qpp, qpq, List.length_set, List.length_replicate, Int.toNat_natCast, qds, qdt, imax, imin, qbf]
  unfold qau
  cases h : qk3 a0 0 a1
  · rfl
  · have hv : qab a1 := qk9 _ _ _ h
    rw [qet, qbx _ (by omega) _ _ _ hl hv]; simp (disch := omega) only [qaz, nth0, nth1, nth2, nth3, bit, qdu, qdv, qd6, qeb, qec, qed, qee, qef, qeg, qeh, qdw, qdx, qdy, qdz, qd0, qd1, qd2, qd3, qd4, qd5, qd7, qd8, qd9, qea, qo2, qo1, qo3, qlg, ql2, ql3, qh9, qa5, qod, nI, qet, qer, Bool.not_true, Bool.not_false, Bool.and_true, Bool.true_and, Bool.and_false, Bool.false_and, Bool.or_true, Bool.true_or, Bool.or_false, Bool.false_or, beq_self_eq_true, dTT, dFF, dT, dF, bigI, big0, qlf, qpp, qpq, List.length_set, List.length_replicate, Int.toNat_natCast, qds, qdt, imax, imin]
def isum : List Int → Int
  | [] => 0
  | x :: l => x + isum l
theorem qif {B : Int} : ∀ (l : List Int), (∀ x ∈ l, 0 ≤ x ∧ x ≤ B) → 0 ≤ isum l ∧ isum l ≤ B * l.length
  | [], h => by simp [isum]
  | x :: l, h => by
    have := qif l fun y hy => h y (by simp [hy])
    have h2 := h x (by simp)
    simp only [isum, List.length_cons, Int.natCast_add, Int.natCast_one, Int.mul_add, Int.mul_one]; omega
theorem qie {B : Int} (hB : 0 ≤ B) : ∀ (l : List Int) (i : Nat), (∀ x ∈ l, 0 ≤ x ∧ x ≤ B) → 0 ≤ isum (l.drop i) ∧ isum (l.drop i) ≤ isum l
  | [], i, h => by simp [isum]
  | x :: l, 0, h => by have := qif (x :: l) h; simp only [List.drop_zero]; omega
  | x :: l, i + 1, h => by
    have := qie hB l i fun y hy => h y (by simp [hy])
    have h2 := h x (by simp)
    simp only [isum, List.drop_succ_cons]; omega
theorem qkn (k : Nat) (hk : 2000000 ≤ k) (fu : List (Nat × Nat)) (z : Bool) (l : List Int) (hl : (l.length : Int) ≤ 1048576) (hb : ∀ x ∈ l, 0 ≤ x ∧ x ≤ 1000000000000) : ∀ (n i : Nat) (s : Int), i ≤ l.length → l.length - i < n → s + isum (l.drop i) = isum l → 0 ≤ s →
    lp k spec_l07Sum [] fu 3 (n) (qm2 s (i : Int) z l) = some [.int .i64 (isum l)]
  | 0, i, s, hi, hn, hs, h0 => by omega
  | n + 1, i, s, hi, hn, hs, h0 => by
    rw [qi8]
    by_cases h : i < l.length
    · rw [qe3 h 0] at hs
      simp only [isum] at hs
      have h1 := qif l hb
      have h2 := qie (by omega) l (i + 1) hb
      have h3 := hb _ (qh4 h 0)
      simp (disch := omega) only [qaz, nth0, nth1, nth2, nth3, bit, qdu, qdv, qd6, qeb, qec, qed, qee, qef, qeg, qeh, qdw, qdx, qdy, qdz, qd0, qd1, qd2, qd3, qd4, qd5, qd7, qd8, qd9, qea, qo2, qo1, qo3, qlg, ql2, ql3, qh9, qa5, qod, nI, qet, qer, Bool.not_true, Bool.not_false, Bool.and_true, Bool.true_and, Bool.and_false, Bool.false_and, Bool.or_true, Bool.true_or, Bool.or_false, Bool.false_or, beq_self_eq_true, dTT, dFF, dT, dF, bigI, big0, qlf, qpp, qpq, List.length_set, List.length_replicate, Int.toNat_natCast, qds, qdt, imax, imin]
      exact qkn k hk fu z l hl hb n (i + 1) _ (by omega) (by omega) (by omega) (by omega)
    · rw [List.drop_of_length_le (by omega)] at hs
      simp only [isum] at hs
      simp (disch := omega) only [qaz, nth0, nth1, nth2, nth3, bit, qdu, qdv, qd6, qeb, qec, qed, qee, qef, qeg, qeh, qdw, qdx, qdy, qdz, qd0, qd1, qd2, qd3, qd4, qd5, qd7, qd8, qd9, qea, qo2, qo1, qo3, qlg, ql2, ql3, qh9, qa5, qod, nI, qet, qer, Bool.not_true, Bool.not_false, Bool.and_true, Bool.true_and, Bool.and_false, Bool.false_and, Bool.or_true, Bool.true_or, Bool.or_false, Bool.false_or, beq_self_eq_true, dTT, dFF, dT, dF, bigI, big0, qlf, qpp, qpq, List.length_set, List.length_replicate, Int.toNat_natCast, qds, qdt, imax, imin]
      rw [show s = isum l by omega]
theorem qc8 (k : Nat) (hk : 2000000 ≤ k) (az : Bool) (a : List Int) (hl : (a.length : Int) ≤ 1048576) (hb : ∀ x ∈ a, 0 ≤ x ∧ x ≤ 1000000000000) : go (k + 1) spec_l07Sum [(.arr false (az) (.ints .i64 (a)))] = some [.int .i64 (isum a)] := by
  rw [qg4]
  exact qkn k hk [] az a hl hb _ 0 0 (by omega) (by omega) (by simp) (by omega)
theorem qj2 (k : Nat) (hk : 2000000 ≤ k) (fu : List (Nat × Nat)) (z : Bool) (l : List Int) (hl : (l.length : Int) ≤ 1048576) (hb : ∀ x ∈ l, 0 ≤ x ∧ x ≤ 1000000000000) : ∀ (n i : Nat) (s : Int), i ≤ l.length → l.length - i < n → s + isum (l.drop i) = isum l → 0 ≤ s →
    lp k impl_sum [] fu 3 (n) (qmm s (l.length : Int) (i : Int) z l) = some [.int .i64 (isum l)]
  | 0, i, s, hi, hn, hs, h0 => by omega
  | n + 1, i, s, hi, hn, hs, h0 => by
    rw [qis]
    by_cases h : i < l.length
    · rw [qe3 h 0] at hs
      simp only [isum] at hs
      have h1 := qif l hb
      have h2 := qie (by omega) l (i + 1) hb
      have h3 := hb _ (qh4 h 0)
      simp (disch := omega) only [qaz, nth0, nth1, nth2, nth3, bit, qdu, qdv, qd6, qeb, qec, qed, qee, qef, qeg, qeh, qdw, qdx, qdy, qdz, qd0, qd1, qd2, qd3, qd4, qd5, qd7, qd8, qd9, qea, qo2, qo1, qo3, qlg, ql2, ql3, qh9, qa5, qod, nI, qet, qer, Bool.not_true, Bool.not_false, Bool.and_true, Bool.true_and, Bool.and_false, Bool.false_and, Bool.or_true, Bool.true_or, Bool.or_false, Bool.false_or, beq_self_eq_true, dTT, dFF, dT, dF, bigI, big0, qlf, qpp, qpq, List.length_set, List.length_replicate, Int.toNat_natCast, qds, qdt, imax, imin]
      exact qj2 k hk fu z l hl hb n (i + 1) _ (by omega) (by omega) (by omega) (by omega)
    · rw [List.drop_of_length_le (by omega)] at hs
      simp only [isum] at hs
      simp (disch := omega) only [qaz, nth0, nth1, nth2, nth3, bit, qdu, qdv, qd6, qeb, qec, qed, qee, qef, qeg, qeh, qdw, qdx, qdy, qdz, qd0, qd1, qd2, qd3, qd4, qd5, qd7, qd8, qd9, qea, qo2, qo1, qo3, qlg, ql2, ql3, qh9, qa5, qod, nI, qet, qer, Bool.not_true, Bool.not_false, Bool.and_true, Bool.true_and, Bool.and_false, Bool.false_and, Bool.or_true, Bool.true_or, Bool.or_false, Bool.false_or, beq_self_eq_true, dTT, dFF, dT, dF, bigI, big0, qlf, qpp, qpq, List.length_set, List.length_replicate, Int.toNat_natCast, qds, qdt, imax, imin]
      rw [show s = isum l by omega]
theorem qbw (k : Nat) (hk : 2000000 ≤ k) (az : Bool) (a : List Int) (hl : (a.length : Int) ≤ 1048576) (hb : ∀ x ∈ a, 0 ≤ x ∧ x ≤ 1000000000000) : go (k + 1) impl_sum [(.arr false (az) (.ints .i64 (a)))] = some [.int .i64 (isum a)] := by
  rw [qft]
  exact qj2 k hk [] az a hl hb _ 0 0 (by omega) (by omega) (by simp) (by omega)
def qku : List Int → List Int → Bool
  | m :: ms, t :: ts => inR m 0 10000000 && (inR t 0 (1000 * m) && qku ms ts)
  | _, _ => true
theorem qkw : ∀ (ms ts : List Int), ms.length = ts.length → qku ms ts = true → (∀ x ∈ ms, 0 ≤ x ∧ x ≤ 10000000) ∧ (∀ x ∈ ts, 0 ≤ x ∧ x ≤ 10000000000)
  | [], ts, hl, h => by cases ts <;> simp_all
  | m :: ms, [], hl, h => by simp at hl
  | m :: ms, t :: ts, hl, h => by
    simp only [qku, Bool.and_eq_true, qh7] at h
    have := qkw ms ts (by simpa using hl) h.2.2
    refine ⟨fun x hx => ?_, fun x hx => ?_⟩
    · rcases List.mem_cons.1 hx with rfl | hx
      · exact h.1
      · exact this.1 x hx
    · rcases List.mem_cons.1 hx with rfl | hx
      · omega
      · exact this.2 x hx
theorem qkv : ∀ (ms ts : List Int), ms.length = ts.length → qku ms ts = true → ∀ i, 0 ≤ ms.getD i 0 ∧ ms.getD i 0 ≤ 10000000 ∧ 0 ≤ ts.getD i 0 ∧ ts.getD i 0 ≤ 1000 * ms.getD i 0
  | [], ts, hl, h, i => by cases ts <;> simp_all
  | m :: ms, [], hl, h, i => by simp at hl
  | m :: ms, t :: ts, hl, h, i => by
    simp only [qku, Bool.and_eq_true, qh7] at h
    cases i with
    | zero => simp; omega
    | succ i => have := qkv ms ts (by simpa using hl) h.2.2 i; simpa using this
def qaw : List Int → Bool
  | [] => true
  | b :: l => inR b 0 1000000 && qaw l
theorem qax : ∀ (l : List Int), qaw l = true → ∀ x ∈ l, 0 ≤ x ∧ x ≤ 1000000
  | [], h, x, hx => by cases hx
  | b :: l, h, x, hx => by
    simp only [qaw, Bool.and_eq_true, qh7] at h
    rcases List.mem_cons.1 hx with rfl | hx
    · exact h.1
    · exact qax l h.2 x hx
def stOk (r : Int) (l : List Cell) (m t b : List Int) : Bool :=
  qau r l && (decide (m.length = l.length) && (decide (t.length = l.length) && (decide ((b.length : Int) = r) && (qku m t && (qaw b && decide (isum m ≤ 10000000))))))
theorem qke (k : Nat) (hk : 2000000 ≤ k) (fu : List (Nat × Nat)) (r : Int) (z1 z2 z3 z4 : Bool) (l : List Cell) (m t b : List Int) (hm : (m.length : Int) ≤ 1048576) (hb : (b.length : Int) ≤ 1048576) (hx : ∀ x ∈ m, 0 ≤ x ∧ x ≤ 10000000) : ∀ (n i : Nat), i ≤ b.length → b.length - i < n →
    lp (k + 6) spec_StateOk [] fu 9 (n) (qmw (i : Int) z1 l z2 m z3 t z4 b r) = some [.bool (qaw (b.drop i) && decide (isum m ≤ 10000000))]
  | 0, i, hi, hn => by omega
  | n + 1, i, hi, hn => by
    rw [qi2]
    by_cases h : i < b.length
    · rw [qe3 h 0]
      have e := qke k hk fu r z1 z2 z3 z4 l m t b hm hb hx n (i + 1) (by omega) (by omega)
      simp (disch := omega) only [qaz, nth0, nth1, nth2, nth3, bit, qdu, qdv, qd6, qeb, qec, qed, qee, qef, qeg, qeh, qdw, qdx, qdy, qdz, qd0, qd1, qd2, qd3, qd4, qd5, qd7, qd8, qd9, qea, qo2, qo1, qo3, qlg, ql2, ql3, qh9, qa5, qod, nI, qet, qer, Bool.not_true, Bool.not_false, Bool.and_true, Bool.true_and, Bool.and_false, Bool.false_and, Bool.or_true, Bool.true_or, Bool.or_false, Bool.false_or, beq_self_eq_true, dTT, dFF, dT, dF, bigI, big0, qlf, qpp, qpq, List.length_set, List.length_replicate, Int.toNat_natCast, qds, qdt, imax, imin, qct, qaw, e, qeu, Bool.and_assoc]
    · rw [List.drop_of_length_le (by omega)]
      have hx' : ∀ x ∈ m, 0 ≤ x ∧ x ≤ 1000000000000 := fun x hh => by have := hx x hh; omega
      rw [show decide ((i : Int) < nI b.length) = false by apply dF; simp only [nI]; omega, qer, qc8 _ (by omega) _ _ hm hx']
      simp (disch := omega) only [qaz, nth0, nth1, nth2, nth3, bit, qdu, qdv, qd6, qeb, qec, qed, qee, qef, qeg, qeh, qdw, qdx, qdy, qdz, qd0, qd1, qd2, qd3, qd4, qd5, qd7, qd8, qd9, qea, qo2, qo1, qo3, qlg, ql2, ql3, qh9, qa5, qod, nI, qet, qer, Bool.not_true, Bool.not_false, Bool.and_true, Bool.true_and, Bool.and_false, Bool.false_and, Bool.or_true, Bool.true_or, Bool.or_false, Bool.false_or, beq_self_eq_true, dTT, dFF, dT, dF, bigI, big0, qlf, qpp, qpq, List.length_set, List.length_replicate, Int.toNat_natCast, qds, qdt, imax, imin, qaw]
theorem qkd (k : Nat) (hk : 2000000 ≤ k) (fu : List (Nat × Nat)) (r : Int) (z1 z2 z3 z4 : Bool) (l : List Cell) (m t b : List Int) (hm : (m.length : Int) ≤ 1048576) (ht : t.length = m.length) : ∀ (n i : Nat), i ≤ m.length → m.length - i < n →
    lp (k + 6) spec_StateOk [] fu 4 (n) (qmv (i : Int) z1 l z2 m z3 t z4 b r) = cond (qku (m.drop i) (t.drop i)) (lp (k + 6) spec_StateOk [] fu 9 (k + 6) (qmw 0 z1 l z2 m z3 t z4 b r)) (some [.bool false])
  | 0, i, hi, hn => by omega
  | n + 1, i, hi, hn => by
    rw [qi1]
    by_cases h : i < m.length
    · rw [qe3 h 0, qe3 (l := t) (by omega : i < t.length) 0]
      have e := qkd k hk fu r z1 z2 z3 z4 l m t b hm ht n (i + 1) (by omega) (by omega)
      by_cases h1 : inR (m.getD i 0) 0 10000000 = true
      · have h2 := qh7.1 h1
        simp (disch := omega) only [qaz, nth0, nth1, nth2, nth3, bit, qdu, qdv, qd6, qeb, qec, qed, qee, qef, qeg, qeh, qdw, qdx, qdy, qdz, qd0, qd1, qd2, qd3, qd4, qd5, qd7, qd8, qd9, qea, qo2, qo1, qo3, qlg, ql2, ql3, qh9, qa5, qod, nI, qet, qer, Bool.not_true, Bool.not_false, Bool.and_true, Bool.true_and, Bool.and_false, Bool.false_and, Bool.or_true, Bool.true_or, Bool.or_false, Bool.false_or, beq_self_eq_true, dTT, dFF, dT, dF, bigI, big0, qlf, qpp, qpq, List.length_set, List.length_replicate, Int.toNat_natCast, qds, qdt, imax, imin, qct, qku, e, h1, qes, qeq]
      · have h1 : inR (m.getD i 0) 0 10000000 = false := by simpa using h1
        simp (disch := omega) only [qaz, nth0, nth1, nth2, nth3, bit, qdu, qdv, qd6, qeb, qec, qed, qee, qef, qeg, qeh, qdw, qdx, qdy, qdz, qd0, qd1, qd2, qd3, qd4, qd5, qd7, qd8, qd9, qea, qo2, qo1, qo3, qlg, ql2, ql3, qh9, qa5, qod, nI, qet, qer, Bool.not_true, Bool.not_false, Bool.and_true, Bool.true_and, Bool.and_false, Bool.false_and, Bool.or_true, Bool.true_or, Bool.or_false, Bool.false_or, beq_self_eq_true, dTT, dFF, dT, dF, bigI, big0, qlf, qpp, qpq, List.length_set, List.length_replicate, Int.toNat_natCast, qds, qdt, imax, imin, qct, qku, h1]
    · rw [List.drop_of_length_le (by omega), List.drop_of_length_le (by omega)]
      simp (disch := omega) only [qaz, nth0, nth1, nth2, nth3, bit, qdu, qdv, qd6, qeb, qec, qed, qee, qef, qeg, qeh, qdw, qdx, qdy, qdz, qd0, qd1, qd2, qd3, qd4, qd5, qd7, qd8, qd9, qea, qo2, qo1, qo3, qlg, ql2, ql3, qh9, qa5, qod, nI, qet, qer, Bool.not_true, Bool.not_false, Bool.and_true, Bool.true_and, Bool.and_false, Bool.false_and, Bool.or_true, Bool.true_or, Bool.or_false, Bool.false_or, beq_self_eq_true, dTT, dFF, dT, dF, bigI, big0, qlf, qpp, qpq, List.length_set, List.length_replicate, Int.toNat_natCast, qds, qdt, imax, imin, qku]
theorem qcm (k : Nat) (hk : 2000000 ≤ k) (a0 : Int) (a1z : Bool) (a1 : List (Int × Int × Int)) (a2z : Bool) (a2 : List Int) (a3z : Bool) (a3 : List Int) (a4z : Bool) (a4 : List Int) (hl : (a1.length : Int) ≤ 1048576) (hb : (a4.length : Int) ≤ 1048576) : go (k + 7) spec_StateOk [(.agg [(.int .i64 (a0)), (.arr false (a1z) (.r3 (a1))), (.arr false (a2z) (.ints .i64 (a2))), (.arr false (a3z) (.ints .i64 (a3))), (.arr false (a4z) (.ints .i64 (a4)))])] = some [.bool (stOk a0 a1 a2 a3 a4)] := by
  rw [qgl]
  simp (disch := omega) only [qaz, nth0, nth1, nth2, nth3, bit, qdu, qdv, qd6, qeb, qec, qed, qee, qef, qeg, qeh, qdw, qdx, qdy, qdz, qd0, qd1, qd2, qd3, qd4, qd5, qd7, qd8, qd9, qea, qo2, qo1, qo3, qlg, ql2, ql3, qh9, qa5, qod, nI, qet, qer, Bool.not_true, Bool.not_false, Bool.and_true, Bool.true_and, Bool.and_false, Bool.false_and, Bool.or_true, Bool.true_or, Bool.or_false, Bool.false_or, beq_self_eq_true, dTT, dFF, dT, dF, bigI, big0, qlf, qpp, qpq, List.length_set, List.length_replicate, Int.toNat_natCast, qds, qdt, imax, imin, qca]
  unfold stOk
  cases qau a0 a1
  · rfl
  by_cases h1 : a2.length = a1.length
  case neg => simp (disch := omega) only [qaz, nth0, nth1, nth2, nth3, bit, qdu, qdv, qd6, qeb, qec, qed, qee, qef, qeg, qeh, qdw, qdx, qdy, qdz, qd0, qd1, qd2, qd3, qd4, qd5, qd7, qd8, qd9, qea, qo2, qo1, qo3, qlg, ql2, ql3, qh9, qa5, qod, nI, qet, qer, Bool.not_true, Bool.not_false, Bool.and_true, Bool.true_and, Bool.and_false, Bool.false_and, Bool.or_true, Bool.true_or, Bool.or_false, Bool.false_or, beq_self_eq_true, dTT, dFF, dT, dF, bigI, big0, qlf, qpp, qpq, List.length_set, List.length_replicate, Int.toNat_natCast, qds, qdt, imax, imin]
  by_cases h2 : a3.length = a1.length
  case neg => simp (disch := omega) only [qaz, nth0, nth1, nth2, nth3, bit, qdu, qdv, qd6, qeb, qec, qed, qee, qef, qeg, qeh, qdw, qdx, qdy, qdz, qd0, qd1, qd2, qd3, qd4, qd5, qd7, qd8, qd9, qea, qo2, qo1, qo3, qlg, ql2, ql3, qh9, qa5, qod, nI, qet, qer, Bool.not_true, Bool.not_false, Bool.and_true, Bool.true_and, Bool.and_false, Bool.false_and, Bool.or_true, Bool.true_or, Bool.or_false, Bool.false_or, beq_self_eq_true, dTT, dFF, dT, dF, bigI, big0, qlf, qpp, qpq, List.length_set, List.length_replicate, Int.toNat_natCast, qds, qdt, imax, imin]
  by_cases h3 : (a4.length : Int) = a0
  case neg => simp (disch := omega) only [qaz, nth0, nth1, nth2, nth3, bit, qdu, qdv, qd6, qeb, qec, qed, qee, qef, qeg, qeh, qdw, qdx, qdy, qdz, qd0, qd1, qd2, qd3, qd4, qd5, qd7, qd8, qd9, qea, qo2, qo1, qo3, qlg, ql2, ql3, qh9, qa5, qod, nI, qet, qer, Bool.not_true, Bool.not_false, Bool.and_true, Bool.true_and, Bool.and_false, Bool.false_and, Bool.or_true, Bool.true_or, Bool.or_false, Bool.false_or, beq_self_eq_true, dTT, dFF, dT, dF, bigI, big0, qlf, qpp, qpq, List.length_set, List.length_replicate, Int.toNat_natCast, qds, qdt, imax, imin]
  simp (disch := omega) only [qaz, nth0, nth1, nth2, nth3, bit, qdu, qdv, qd6, qeb, qec, qed, qee, qef, qeg, qeh, qdw, qdx, qdy, qdz, qd0, qd1, qd2, qd3, qd4, qd5, qd7, qd8, qd9, qea, qo2, qo1, qo3, qlg, ql2, ql3, qh9, qa5, qod, nI, qet, qer, Bool.not_true, Bool.not_false, Bool.and_true, Bool.true_and, Bool.and_false, Bool.false_and, Bool.or_true, Bool.true_or, Bool.or_false, Bool.false_or, beq_self_eq_true, dTT, dFF, dT, dF, bigI, big0, qlf, qpp, qpq, List.length_set, List.length_replicate, Int.toNat_natCast, qds, qdt, imax, imin]
  refine Eq.trans (qkd k hk [] a0 a1z a2z a3z a4z a1 a2 a3 a4 (by omega) (by omega) _ 0 (by omega) (by omega)) ?_
  simp only [List.drop_zero]
  cases h4 : qku a2 a3
  · rfl
  · have hx := (qkw a2 a3 (by omega) h4).1
    have e := qke k hk [] a0 a1z a2z a3z a4z a1 a2 a3 a4 (by omega) hb hx (k + 6) 0 (by omega) (by omega)
    simp only [List.drop_zero] at e
    simp only [qet, Bool.true_and, dT (h1), dT (h2), dT (h3), decide_true]
    exact e
theorem qbs (k : Nat) (hk : 2000000 ≤ k) (a : Int) : go (k + 2) impl_isBed [(.int .i64 (a))] = some [.bool (inR a 0 1000000)] := by
  rw [qfp]; simp (disch := omega) only [qaz, nth0, nth1, nth2, nth3, bit, qdu, qdv, qd6, qeb, qec, qed, qee, qef, qeg, qeh, qdw, qdx, qdy, qdz, qd0, qd1, qd2, qd3, qd4, qd5, qd7, qd8, qd9, qea, qo2, qo1, qo3, qlg, ql2, ql3, qh9, qa5, qod, nI, qet, qer, Bool.not_true, Bool.not_false, Bool.and_true, Bool.true_and, Bool.and_false, Bool.false_and, Bool.or_true, Bool.true_or, Bool.or_false, Bool.false_or, beq_self_eq_true, dTT, dFF, dT, dF, bigI, big0, qlf, qpp, qpq, List.length_set, List.length_replicate, Int.toNat_natCast, qds, qdt, imax, imin, qby]
theorem qbr (k : Nat) (hk : 2000000 ≤ k) (a : Int) : go (k + 3) impl_State_hasCells_1 [(.int .i64 (a))] = some [.bool (!inR a 0 1000000)] := by
  rw [qfi]; simp (disch := omega) only [qaz, nth0, nth1, nth2, nth3, bit, qdu, qdv, qd6, qeb, qec, qed, qee, qef, qeg, qeh, qdw, qdx, qdy, qdz, qd0, qd1, qd2, qd3, qd4, qd5, qd7, qd8, qd9, qea, qo2, qo1, qo3, qlg, ql2, ql3, qh9, qa5, qod, nI, qet, qer, Bool.not_true, Bool.not_false, Bool.and_true, Bool.true_and, Bool.and_false, Bool.false_and, Bool.or_true, Bool.true_or, Bool.or_false, Bool.false_or, beq_self_eq_true, dTT, dFF, dT, dF, bigI, big0, qlf, qpp, qpq, List.length_set, List.length_replicate, Int.toNat_natCast, qds, qdt, imax, imin, qbs]
theorem qj4 (k : Nat) (hk : 2000000 ≤ k) (fu : List (Nat × Nat)) (z : Bool) (l : List Int) (hl : (l.length : Int) ≤ 1048576) : ∀ (n i : Nat), i ≤ l.length → l.length - i < n →
    ∃ j : Int, lp (k + 3) slices_IndexFunc_int_int [] fu 2 (n) (qmn (l.length : Int) (i : Int) z l) = some [.int .i64 j] ∧ decide (0 ≤ j) = !qaw (l.drop i)
  | 0, i, hi, hn => by omega
  | n + 1, i, hi, hn => by
    rw [qit]
    by_cases h : i < l.length
    · rw [qe3 h 0]
      obtain ⟨j, e1, e2⟩ := qj4 k hk fu z l hl n (i + 1) (by omega) (by omega)
      simp (disch := omega) only [qaz, nth0, nth1, nth2, nth3, bit, qdu, qdv, qd6, qeb, qec, qed, qee, qef, qeg, qeh, qdw, qdx, qdy, qdz, qd0, qd1, qd2, qd3, qd4, qd5, qd7, qd8, qd9, qea, qo2, qo1, qo3, qlg, ql2, ql3, qh9, qa5, qod, nI, qet, qer, Bool.not_true, Bool.not_false, Bool.and_true, Bool.true_and, Bool.and_false, Bool.false_and, Bool.or_true, Bool.true_or, Bool.or_false, Bool.false_or, beq_self_eq_true, dTT, dFF, dT, dF, bigI, big0, qlf, qpp, qpq, List.length_set, List.length_replicate, Int.toNat_natCast, qds, qdt, imax, imin, qbr, qaw, e1]
      cases inR (l.getD i 0) 0 1000000
      · exact ⟨i, rfl, by rw [dT (by omega)]; rfl⟩
      · exact ⟨j, rfl, by rw [e2]; rfl⟩
    · rw [List.drop_of_length_le (by omega)]
      simp (disch := omega) only [qaz, nth0, nth1, nth2, nth3, bit, qdu, qdv, qd6, qeb, qec, qed, qee, qef, qeg, qeh, qdw, qdx, qdy, qdz, qd0, qd1, qd2, qd3, qd4, qd5, qd7, qd8, qd9, qea, qo2, qo1, qo3, qlg, ql2, ql3, qh9, qa5, qod, nI, qet, qer, Bool.not_true, Bool.not_false, Bool.and_true, Bool.true_and, Bool.and_false, Bool.false_and, Bool.or_true, Bool.true_or, Bool.or_false, Bool.false_or, beq_self_eq_true, dTT, dFF, dT, dF, bigI, big0, qlf, qpp, qpq, List.length_set, List.length_replicate, Int.toNat_natCast, qds, qdt, imax, imin, qaw]
      exact ⟨-1, rfl, rfl⟩
theorem qa9 (k : Nat) (hk : 2000000 ≤ k) (z : Bool) (l : List Int) (hl : (l.length : Int) ≤ 1048576) : go (k + 5) slices_ContainsFunc_int_int [.arr false z (.ints .i64 l), .fn impl_State_hasCells_1 []] = some [.bool (!qaw l)] := by
  rw [qfy, qfz]
  obtain ⟨j, e1, e2⟩ := qj4 k hk [] z l hl (k + 3) 0 (by omega) (by omega)
  have e1' := e1
  simp only [nI] at *
  rw [show ((0 : Nat) : Int) = 0 from rfl] at e1'
  rw [e1']
  simp (disch := omega) only [qaz, nth0, nth1, nth2, nth3, bit, qdu, qdv, qd6, qeb, qec, qed, qee, qef, qeg, qeh, qdw, qdx, qdy, qdz, qd0, qd1, qd2, qd3, qd4, qd5, qd7, qd8, qd9, qea, qo2, qo1, qo3, qlg, ql2, ql3, qh9, qa5, qod, nI, qet, qer, Bool.not_true, Bool.not_false, Bool.and_true, Bool.true_and, Bool.and_false, Bool.false_and, Bool.or_true, Bool.true_or, Bool.or_false, Bool.false_or, beq_self_eq_true, dTT, dFF, dT, dF, bigI, big0, qlf, qpp, qpq, List.length_set, List.length_replicate, Int.toNat_natCast, qds, qdt, imax, imin]
  rw [show decide ((0 : Int) ≤ j) = !qaw l from e2]
theorem qjz (k : Nat) (hk : 2000000 ≤ k) (fu : List (Nat × Nat)) (r : Int) (z1 z2 z3 z4 : Bool) (l : List Cell) (m t b : List Int) (hm : (m.length : Int) ≤ 1048576) (ht : t.length = m.length) (s : List D)
    (hs : qku m t = true → go (k + 5) impl_sum [.arr false z2 (.ints .i64 m)] = some [.int .i64 (isum m)]) (P : Bool) : ∀ (n i : Nat), i ≤ m.length → m.length - i < n → (qku (m.drop i) (t.drop i) = true → qku m t = true) →
    lp (k + 5) impl_State_hasCells [] fu 5 (n) (qml (m.length : Int) (i : Int) z1 l z2 m z3 t z4 b r) = some [.bool (qku (m.drop i) (t.drop i) && decide (isum m ≤ 10000000))]
  | 0, i, hi, hn, hq => by omega
  | n + 1, i, hi, hn, hq => by
    rw [qir]
    by_cases h : i < m.length
    · rw [qe3 h 0, qe3 (l := t) (by omega : i < t.length) 0] at hq ⊢
      by_cases h1 : inR (m.getD i 0) 0 10000000 = true
      · have h2 := qh7.1 h1
        by_cases h3 : inR (t.getD i 0) 0 (1000 * m.getD i 0) = true
        · have e := qjz k hk fu r z1 z2 z3 z4 l m t b hm ht s hs P n (i + 1) (by omega) (by omega) (fun hh => hq (by simp only [qku, h1, h3, hh, Bool.and_self]))
          simp (disch := omega) only [qaz, nth0, nth1, nth2, nth3, bit, qdu, qdv, qd6, qeb, qec, qed, qee, qef, qeg, qeh, qdw, qdx, qdy, qdz, qd0, qd1, qd2, qd3, qd4, qd5, qd7, qd8, qd9, qea, qo2, qo1, qo3, qlg, ql2, ql3, qh9, qa5, qod, nI, qet, qer, Bool.not_true, Bool.not_false, Bool.and_true, Bool.true_and, Bool.and_false, Bool.false_and, Bool.or_true, Bool.true_or, Bool.or_false, Bool.false_or, beq_self_eq_true, dTT, dFF, dT, dF, bigI, big0, qlf, qpp, qpq, List.length_set, List.length_replicate, Int.toNat_natCast, qds, qdt, imax, imin, qby, qku, e, h1, h3]
        · have h3 : inR (t.getD i 0) 0 (1000 * m.getD i 0) = false := by simpa using h3
          simp (disch := omega) only [qaz, nth0, nth1, nth2, nth3, bit, qdu, qdv, qd6, qeb, qec, qed, qee, qef, qeg, qeh, qdw, qdx, qdy, qdz, qd0, qd1, qd2, qd3, qd4, qd5, qd7, qd8, qd9, qea, qo2, qo1, qo3, qlg, ql2, ql3, qh9, qa5, qod, nI, qet, qer, Bool.not_true, Bool.not_false, Bool.and_true, Bool.true_and, Bool.and_false, Bool.false_and, Bool.or_true, Bool.true_or, Bool.or_false, Bool.false_or, beq_self_eq_true, dTT, dFF, dT, dF, bigI, big0, qlf, qpp, qpq, List.length_set, List.length_replicate, Int.toNat_natCast, qds, qdt, imax, imin, qby, qku, h1, h3]
      · have h1 : inR (m.getD i 0) 0 10000000 = false := by simpa using h1
        simp (disch := omega) only [qaz, nth0, nth1, nth2, nth3, bit, qdu, qdv, qd6, qeb, qec, qed, qee, qef, qeg, qeh, qdw, qdx, qdy, qdz, qd0, qd1, qd2, qd3, qd4, qd5, qd7, qd8, qd9, qea, qo2, qo1, qo3, qlg, ql2, ql3, qh9, qa5, qod, nI, qet, qer, Bool.not_true, Bool.not_false, Bool.and_true, Bool.true_and, Bool.and_false, Bool.false_and, Bool.or_true, Bool.true_or, Bool.or_false, Bool.false_or, beq_self_eq_true, dTT, dFF, dT, dF, bigI, big0, qlf, qpp, qpq, List.length_set, List.length_replicate, Int.toNat_natCast, qds, qdt, imax, imin, qby, qku, h1]
    · rw [List.drop_of_length_le (by omega), List.drop_of_length_le (by omega)] at hq ⊢
      have e := hs (hq rfl)
      simp (disch := omega) only [qaz, nth0, nth1, nth2, nth3, bit, qdu, qdv, qd6, qeb, qec, qed, qee, qef, qeg, qeh, qdw, qdx, qdy, qdz, qd0, qd1, qd2, qd3, qd4, qd5, qd7, qd8, qd9, qea, qo2, qo1, qo3, qlg, ql2, ql3, qh9, qa5, qod, nI, qet, qer, Bool.not_true, Bool.not_false, Bool.and_true, Bool.true_and, Bool.and_false, Bool.false_and, Bool.or_true, Bool.true_or, Bool.or_false, Bool.false_or, beq_self_eq_true, dTT, dFF, dT, dF, bigI, big0, qlf, qpp, qpq, List.length_set, List.length_replicate, Int.toNat_natCast, qds, qdt, imax, imin, qku, e]
theorem qbq (k : Nat) (hk : 2000000 ≤ k) (a0 : Int) (a1z : Bool) (a1 : List (Int × Int × Int)) (a2z : Bool) (a2 : List Int) (a3z : Bool) (a3 : List Int) (a4z : Bool) (a4 : List Int) (hl : (a1.length : Int) ≤ 1048576) (hb : (a4.length : Int) ≤ 1048576) : go (k + 6) impl_State_hasCells [(.agg [(.int .i64 (a0)), (.arr false (a1z) (.r3 (a1))), (.arr false (a2z) (.ints .i64 (a2))), (.arr false (a3z) (.ints .i64 (a3))), (.arr false (a4z) (.ints .i64 (a4)))])] = some [.bool (decide (a2.length = a1.length) && (decide (a3.length = a1.length) && (decide ((a4.length : Int) = a0) && (qku a2 a3 && (qaw a4 && decide (isum a2 ≤ 10000000))))))] := by
  rw [qfh]
  by_cases h1 : a2.length = a1.length
  case neg => simp (disch := omega) only [qaz, nth0, nth1, nth2, nth3, bit, qdu, qdv, qd6, qeb, qec, qed, qee, qef, qeg, qeh, qdw, qdx, qdy, qdz, qd0, qd1, qd2, qd3, qd4, qd5, qd7, qd8, qd9, qea, qo2, qo1, qo3, qlg, ql2, ql3, qh9, qa5, qod, nI, qet, qer, Bool.not_true, Bool.not_false, Bool.and_true, Bool.true_and, Bool.and_false, Bool.false_and, Bool.or_true, Bool.true_or, Bool.or_false, Bool.false_or, beq_self_eq_true, dTT, dFF, dT, dF, bigI, big0, qlf, qpp, qpq, List.length_set, List.length_replicate, Int.toNat_natCast, qds, qdt, imax, imin]
  by_cases h2 : a3.length = a1.length
  case neg => simp (disch := omega) only [qaz, nth0, nth1, nth2, nth3, bit, qdu, qdv, qd6, qeb, qec, qed, qee, qef, qeg, qeh, qdw, qdx, qdy, qdz, qd0, qd1, qd2, qd3, qd4, qd5, qd7, qd8, qd9, qea, qo2, qo1, qo3, qlg, ql2, ql3, qh9, qa5, qod, nI, qet, qer, Bool.not_true, Bool.not_false, Bool.and_true, Bool.true_and, Bool.and_false, Bool.false_and, Bool.or_true, Bool.true_or, Bool.or_false, Bool.false_or, beq_self_eq_true, dTT, dFF, dT, dF, bigI, big0, qlf, qpp, qpq, List.length_set, List.length_replicate, Int.toNat_natCast, qds, qdt, imax, imin]
  by_cases h3 : (a4.length : Int) = a0
  case neg => simp (disch := omega) only [qaz, nth0, nth1, nth2, nth3, bit, qdu, qdv, qd6, qeb, qec, qed, qee, qef, qeg, qeh, qdw, qdx, qdy, qdz, qd0, qd1, qd2, qd3, qd4, qd5, qd7, qd8, qd9, qea, qo2, qo1, qo3, qlg, ql2, ql3, qh9, qa5, qod, nI, qet, qer, Bool.not_true, Bool.not_false, Bool.and_true, Bool.true_and, Bool.and_false, Bool.false_and, Bool.or_true, Bool.true_or, Bool.or_false, Bool.false_or, beq_self_eq_true, dTT, dFF, dT, dF, bigI, big0, qlf, qpp, qpq, List.length_set, List.length_replicate, Int.toNat_natCast, qds, qdt, imax, imin]
  simp (disch := omega) only [qaz, nth0, nth1, nth2, nth3, bit, qdu, qdv, qd6, qeb, qec, qed, qee, qef, qeg, qeh, qdw, qdx, qdy, qdz, qd0, qd1, qd2, qd3, qd4, qd5, qd7, qd8, qd9, qea, qo2, qo1, qo3, qlg, ql2, ql3, qh9, qa5, qod, nI, qet, qer, Bool.not_true, Bool.not_false, Bool.and_true, Bool.true_and, Bool.and_false, Bool.false_and, Bool.or_true, Bool.true_or, Bool.or_false, Bool.false_or, beq_self_eq_true, dTT, dFF, dT, dF, bigI, big0, qlf, qpp, qpq, List.length_set, List.length_replicate, Int.toNat_natCast, qds, qdt, imax, imin, qa9]
  cases h5 : qaw a4
  · cases qku a2 a3 <;> rfl
  have e := qjz k hk [] a0 a1z a2z a3z a4z a1 a2 a3 a4 (by omega) (by omega) [] (fun hm => by
    have hx := (qkw a2 a3 (by omega) hm).1
    exact qbw _ (by omega) _ _ (by omega) (fun x hh => by have := hx x hh; omega)) true (k + 5) 0 (by omega) (by omega) (fun h => h)
  simp only [List.drop_zero] at e
  simp only [Bool.not_true, qer, Bool.true_and]
  exact e
theorem qbj (k : Nat) (hk : 2000000 ≤ k) (a0 : Int) (a1z : Bool) (a1 : List (Int × Int × Int)) (a2z : Bool) (a2 : List Int) (a3z : Bool) (a3 : List Int) (a4z : Bool) (a4 : List Int) (hl : (a1.length : Int) ≤ 1048576) (hb : (a4.length : Int) ≤ 1048576) : go (k + 8) impl_StateOk [(.agg [(.int .i64 (a0)), (.arr false (a1z) (.r3 (a1))), (.arr false (a2z) (.ints .i64 (a2))), (.arr false (a3z) (.ints .i64 (a3))), (.arr false (a4z) (.ints .i64 (a4)))])] = some [.bool (stOk a0 a1 a2 a3 a4)] := by
  rw [qfg]
  simp (disch := omega) only [qaz, nth0, nth1, nth2, nth3, bit, qdu, qdv, qd6, qeb, qec, qed, qee, qef, qeg, qeh, qdw, qdx, qdy, qdz, qd0, qd1, qd2, qd3, qd4, qd5, qd7, qd8, qd9, qea, qo2, qo1, qo3, qlg, ql2, ql3, qh9, qa5, qod, nI, qet, qer, Bool.not_true, Bool.not_false, Bool.and_true, Bool.true_and, Bool.and_false, Bool.false_and, Bool.or_true, Bool.true_or, Bool.or_false, Bool.false_or, beq_self_eq_true, dTT, dFF, dT, dF, bigI, big0, qlf, qpp, qpq, List.length_set, List.length_replicate, Int.toNat_natCast, qds, qdt, imax, imin, qbe, qbq]
  unfold stOk
  cases qau a0 a1 <;> rfl
end Go.Proofs.Ytcaapedadpnjoaa
end
section
namespace Go.Proofs.Ytcaapedadpnjoaa
open Go.Ev
theorem qcv (k : Nat) (hk : 2000000 ≤ k) (a0 : Int) (a1z : Bool) (a1 : List (Int × Int × Int)) (h1 : (a1.length : Int) ≤ 1048576) : go (k + 1) spec_l04Copy [(.agg [(.int .i64 (a0)), (.arr false (a1z) (.r3 (a1)))])] = some [.agg [.int .i64 a0, .arr true false (.r3 a1)]] := by
  rw [qgr]
  simp (disch := omega) only [qaz, nth0, nth1, nth2, nth3, bit, qdu, qdv, qd6, qeb, qec, qed, qee, qef, qeg, qeh, qdw, qdx, qdy, qdz, qd0, qd1, qd2, qd3, qd4, qd5, qd7, qd8, qd9, qea, qo2, qo1, qo3, qlg, ql2, ql3, qh9, qa5, qod, nI, qet, qer, Bool.not_true, Bool.not_false, Bool.and_true, Bool.true_and, Bool.and_false, Bool.false_and, Bool.or_true, Bool.true_or, Bool.or_false, Bool.false_or, beq_self_eq_true, dTT, dFF, dT, dF, bigI, big0, qlf, qpp, qpq, List.length_set, List.length_replicate, Int.toNat_natCast, qds, qdt, imax, imin]
theorem qc6 (k : Nat) (hk : 2000000 ≤ k) (a0 : Int) (a1z : Bool) (a1 : List (Int × Int × Int)) (a2z : Bool) (a2 : List Int) (a3z : Bool) (a3 : List Int) (a4z : Bool) (a4 : List Int) (h1 : (a1.length : Int) ≤ 1048576) (h2 : (a2.length : Int) ≤ 1048576) (h3 : (a3.length : Int) ≤ 1048576) (h4 : (a4.length : Int) ≤ 1048576) : go (k + 2) spec_l07Copy [(.agg [(.int .i64 (a0)), (.arr false (a1z) (.r3 (a1))), (.arr false (a2z) (.ints .i64 (a2))), (.arr false (a3z) (.ints .i64 (a3))), (.arr false (a4z) (.ints .i64 (a4)))])] = some [.agg [.int .i64 a0, .arr true false (.r3 a1), .arr true false (.ints .i64 a2), .arr true false (.ints .i64 a3), .arr true false (.ints .i64 a4)]] := by
  rw [qg2]
  simp (disch := omega) only [qaz, nth0, nth1, nth2, nth3, bit, qdu, qdv, qd6, qeb, qec, qed, qee, qef, qeg, qeh, qdw, qdx, qdy, qdz, qd0, qd1, qd2, qd3, qd4, qd5, qd7, qd8, qd9, qea, qo2, qo1, qo3, qlg, ql2, ql3, qh9, qa5, qod, nI, qet, qer, Bool.not_true, Bool.not_false, Bool.and_true, Bool.true_and, Bool.and_false, Bool.false_and, Bool.or_true, Bool.true_or, Bool.or_false, Bool.false_or, beq_self_eq_true, dTT, dFF, dT, dF, bigI, big0, qlf, qpp, qpq, List.length_set, List.length_replicate, Int.toNat_natCast, qds, qdt, imax, imin, qcv]
theorem qb0 (k : Nat) (hk : 2000000 ≤ k) (a : List Cell) (hl : (a.length : Int) ≤ 1048576) : go (k + 1) slices_Clone_impl_Id_impl_Id [.arr false false (.r3 a)] = some [.arr true false (.r3 a)] := by
  rw [qfx]
  simp (disch := omega) only [qaz, nth0, nth1, nth2, nth3, bit, qdu, qdv, qd6, qeb, qec, qed, qee, qef, qeg, qeh, qdw, qdx, qdy, qdz, qd0, qd1, qd2, qd3, qd4, qd5, qd7, qd8, qd9, qea, qo2, qo1, qo3, qlg, ql2, ql3, qh9, qa5, qod, nI, qet, qer, Bool.not_true, Bool.not_false, Bool.and_true, Bool.true_and, Bool.and_false, Bool.false_and, Bool.or_true, Bool.true_or, Bool.or_false, Bool.false_or, beq_self_eq_true, dTT, dFF, dT, dF, bigI, big0, qlf, qpp, qpq, List.length_set, List.length_replicate, Int.toNat_natCast, qds, qdt, imax, imin]
theorem qbo (k : Nat) (hk : 2000000 ≤ k) (a0 : Int) (a1 : List Cell) (h1 : (a1.length : Int) ≤ 1048576) : go (k + 2) impl_copyMesh [.agg [.int .i64 a0, .arr false false (.r3 a1)]] = some [.agg [.int .i64 a0, .arr true false (.r3 a1)]] := by
  rw [qfn]
  simp (disch := omega) only [qaz, nth0, nth1, nth2, nth3, bit, qdu, qdv, qd6, qeb, qec, qed, qee, qef, qeg, qeh, qdw, qdx, qdy, qdz, qd0, qd1, qd2, qd3, qd4, qd5, qd7, qd8, qd9, qea, qo2, qo1, qo3, qlg, ql2, ql3, qh9, qa5, qod, nI, qet, qer, Bool.not_true, Bool.not_false, Bool.and_true, Bool.true_and, Bool.and_false, Bool.false_and, Bool.or_true, Bool.true_or, Bool.or_false, Bool.false_or, beq_self_eq_true, dTT, dFF, dT, dF, bigI, big0, qlf, qpp, qpq, List.length_set, List.length_replicate, Int.toNat_natCast, qds, qdt, imax, imin, qb0]
end Go.Proofs.Ytcaapedadpnjoaa
end
section
namespace Go.Proofs.Ytcaapedadpnjoaa
open Go.Ev
def qia (t lv : Int) : Bool := inR lv 0 4 && (decide (0 ≤ t) && decide (Int.tmod t (qpj lv) = 0))
theorem qpn {l : Int} (h : inR l 0 4 = true) : 0 < qpj l := by
  rcases lev h with rfl | rfl | rfl | rfl | rfl <;> decide
theorem qpm {l : Int} (h : inR l 0 4 = false) : qpj l = 0 := by simp [qpj, h]
theorem qb9 (k : Nat) (hk : 2000000 ≤ k) (a : Int) (b : Int) : go (k + 3) spec_IsActive [(.int .i64 (a)), (.int .i64 (b))] = some [.bool (qia a b)] := by
  rw [qf8]
  simp (disch := omega) only [qaz, nth0, nth1, nth2, nth3, bit, qdu, qdv, qd6, qeb, qec, qed, qee, qef, qeg, qeh, qdw, qdx, qdy, qdz, qd0, qd1, qd2, qd3, qd4, qd5, qd7, qd8, qd9, qea, qo2, qo1, qo3, qlg, ql2, ql3, qh9, qa5, qod, nI, qet, qer, Bool.not_true, Bool.not_false, Bool.and_true, Bool.true_and, Bool.and_false, Bool.false_and, Bool.or_true, Bool.true_or, Bool.or_false, Bool.false_or, beq_self_eq_true, dTT, dFF, dT, dF, bigI, big0, qlf, qpp, qpq, List.length_set, List.length_replicate, Int.toNat_natCast, qds, qdt, imax, imin, qcn]
  unfold qia
  cases h : inR b 0 4
  · rw [qpm h]; cases decide ((0 : Int) ≤ a) <;> simp
  · have := qpn h
    simp (disch := omega) only [qaz, nth0, nth1, nth2, nth3, bit, qdu, qdv, qd6, qeb, qec, qed, qee, qef, qeg, qeh, qdw, qdx, qdy, qdz, qd0, qd1, qd2, qd3, qd4, qd5, qd7, qd8, qd9, qea, qo2, qo1, qo3, qlg, ql2, ql3, qh9, qa5, qod, nI, qet, qer, Bool.not_true, Bool.not_false, Bool.and_true, Bool.true_and, Bool.and_false, Bool.false_and, Bool.or_true, Bool.true_or, Bool.or_false, Bool.false_or, beq_self_eq_true, dTT, dFF, dT, dF, bigI, big0, qlf, qpp, qpq, List.length_set, List.length_replicate, Int.toNat_natCast, qds, qdt, imax, imin, decide_not]
    cases decide ((0 : Int) ≤ a) <;> simp
def qhu (l : List Cell) (i : Nat) : Int := max (qjk l (i + 1)) (qjk l i)
theorem qc0 (k : Nat) (hk : 2000000 ≤ k) (a0 : Int) (a1z : Bool) (a1 : List Cell) (i : Nat) (hi : i + 1 < a1.length) (hl : (a1.length : Int) ≤ 1048576) : go (k + 1) spec_l05Face [.agg [.int .i64 a0, .arr false a1z (.r3 a1)], .int .i64 (i : Int)] = some [.int .i64 (qhu a1 i)] := by
  rw [qgw]
  simp (disch := omega) only [qaz, nth0, nth1, nth2, nth3, bit, qdu, qdv, qd6, qeb, qec, qed, qee, qef, qeg, qeh, qdw, qdx, qdy, qdz, qd0, qd1, qd2, qd3, qd4, qd5, qd7, qd8, qd9, qea, qo2, qo1, qo3, qlg, ql2, ql3, qh9, qa5, qod, nI, qet, qer, Bool.not_true, Bool.not_false, Bool.and_true, Bool.true_and, Bool.and_false, Bool.false_and, Bool.or_true, Bool.true_or, Bool.or_false, Bool.false_or, beq_self_eq_true, dTT, dFF, dT, dF, bigI, big0, qlf, qpp, qpq, List.length_set, List.length_replicate, Int.toNat_natCast, qds, qdt, imax, imin]
  rfl
def qai (t : Int) (l : List Cell) (i : Nat) : Bool := decide (i + 1 < l.length) && qia t (qhu l i)
end Go.Proofs.Ytcaapedadpnjoaa
end
section
namespace Go.Proofs.Ytcaapedadpnjoaa
open Go.Ev
theorem qhb (k : Nat) (a0 : Int) (a1z : Bool) (a1 : List (Int × Int × Int)) (a2z : Bool) (a2 : List Int) (a3z : Bool) (a3 : List Int) (a4z : Bool) (a4 : List Int) (b : Int) : go (k + 1) spec_l09Surface [(.agg [(.int .i64 (a0)), (.arr false (a1z) (.r3 (a1))), (.arr false (a2z) (.ints .i64 (a2))), (.arr false (a3z) (.ints .i64 (a3))), (.arr false (a4z) (.ints .i64 (a4)))]), (.int .i64 (b))] =
 cond (decide ((0 : Int) ≤ b) && decide (b < nI (List.length a1)))
 (cond (decide ((0 : Int) ≤ Prod.fst (List.getD a1 (Int.toNat b) zz3)) && decide (Prod.fst (List.getD a1 (Int.toNat b) zz3) < nI (List.length a4)))
 (cond (decide ((0 : Int) ≤ b) && decide (b < nI (List.length a2)))
 (cond (decide ((0 : Int) ≤ IntKind.wrap IntKind.u64 (Prod.fst (Prod.snd (List.getD a1 (Int.toNat b) zz3)))))
 (some [(.int .i64 (IntKind.wrap .i64 (List.getD a4 (Int.toNat (Prod.fst (List.getD a1 (Int.toNat b) zz3))) (0 : Int) + IntKind.wrap .i64 (List.getD a2 (Int.toNat b) (0 : Int) * (2 : Int) ^ shiftN .i64 (IntKind.wrap IntKind.u64 (Prod.fst (Prod.snd (List.getD a1 (Int.toNat b) zz3))))))))])
 (none))
 (none))
 (none))
 (none) := by kernel_rfl
theorem qg9 (k : Nat) (a b : Int) : go (k + 1) spec_l09Gap [(.int .i64 (a)), (.int .i64 (b))] =
 cond (decide (b < a))
 (some [(.int .i64 (IntKind.wrap .i64 (a - b)))])
 (some [(.int .i64 (IntKind.wrap .i64 (b - a)))]) := by kernel_rfl

end Go.Proofs.Ytcaapedadpnjoaa
end
section
namespace Go.Proofs.Ytcaapedadpnjoaa
open Go.Ev
theorem qpk {l : Int} (h : inR l 0 4 = true) : 1 ≤ qpj l ∧ qpj l ≤ 16 := by
  rcases lev h with rfl | rfl | rfl | rfl | rfl <;> decide
theorem qpi {x : Cell} (h : idOk x.1 x.2.1 x.2.2 = true) : qn4 x.1 x.2.1 x.2.2 = x.1 * 16 + x.2.2 * qpj x.2.1 ∧ 0 ≤ x.2.2 * qpj x.2.1 ∧ 1 ≤ qpj x.2.1 := by
  have := qh6 h
  exact ⟨by simp [qn4, h], (iw h).1, (qpk this.2.2.1).1⟩
theorem qk7 : ∀ (l : List Cell) (r p : Int), qk3 r p l = true → 1 ≤ r ∧ r ≤ 8 ∧ p + l.length ≤ 16 * r ∧ (∀ i, i < l.length → 0 ≤ (l.getD i zz3).1 ∧ (l.getD i zz3).1 < r ∧ idOk (l.getD i zz3).1 (l.getD i zz3).2.1 (l.getD i zz3).2.2 = true) ∧ (l = [] → p = 16 * r)
  | [], r, p, h => by
    simp only [qk3, Bool.and_eq_true, qh7, decide_eq_true_eq] at h
    simp; omega
  | x :: l, r, p, h => by
    simp only [qk3, Bool.and_eq_true, decide_eq_true_eq] at h
    obtain ⟨h1, h2, h3⟩ := h
    have w := qpi h1
    have ih := qk7 l r _ h3
    have ds := qh6 h1
    refine ⟨ih.1, ih.2.1, by simp only [List.length_cons]; omega, fun i hi => ?_, by simp⟩
    cases i with
    | zero => simp only [List.getD_cons_zero]; refine ⟨by omega, by omega, h1⟩
    | succ i => simp only [List.getD_cons_succ]; exact ih.2.2.2.1 i (by simpa using hi)
theorem qk8 {l : List Cell} {r : Int} (h : qk3 r 0 l = true) : 1 ≤ l.length ∧ l.length ≤ 128 := by
  have f := qk7 l r 0 h
  cases l with
  | nil => have := f.2.2.2.2 rfl; omega
  | cons x l => simp only [List.length_cons] at f ⊢; omega
structure StF (r : Int) (l : List Cell) (m t b : List Int) : Prop where
  mesh : qk3 r 0 l = true
  bal : unb l < 0
  ml : m.length = l.length
  tl : t.length = l.length
  bl : (b.length : Int) = r
  mt : qku m t = true
  bed : qaw b = true
  sum : isum m ≤ 10000000
theorem stF {r : Int} {l : List Cell} {m t b : List Int} : stOk r l m t b = true ↔ StF r l m t b := by
  unfold stOk qau
  simp only [Bool.and_eq_true, decide_eq_true_eq]
  exact ⟨fun h => ⟨h.1.1, h.1.2, h.2.1, h.2.2.1, h.2.2.2.1, h.2.2.2.2.1, h.2.2.2.2.2.1, h.2.2.2.2.2.2⟩, fun h => ⟨⟨h.mesh, h.bal⟩, h.ml, h.tl, h.bl, h.mt, h.bed, h.sum⟩⟩
theorem shp {l : Int} (h : inR l 0 4 = true) : (2 : Int) ^ shiftN .i64 l = pow2 l := by
  rcases lev h with rfl | rfl | rfl | rfl | rfl <;> simp [sh0, sh1, sh2, sh3, sh4, p20, p21, p22, p23, p24]
theorem mulp {m l : Int} (h : inR l 0 4 = true) (h0 : 0 ≤ m) : m ≤ m * pow2 l ∧ m * pow2 l ≤ 16 * m := by
  rcases lev h with rfl | rfl | rfl | rfl | rfl <;> simp only [p20, p21, p22, p23, p24] <;> omega
section
variable {r : Int} {l : List Cell} {m t b : List Int}
theorem StF.len (F : StF r l m t b) : 1 ≤ l.length ∧ l.length ≤ 128 := qk8 F.mesh
theorem StF.rr (F : StF r l m t b) : 1 ≤ r ∧ r ≤ 8 := ⟨(qk7 l r 0 F.mesh).1, (qk7 l r 0 F.mesh).2.1⟩
theorem StF.lev (F : StF r l m t b) (i : Nat) : inR (l.getD i zz3).2.1 0 4 = true := by
  have := qk9 l r 0 F.mesh i
  simp only [qjk] at this
  rw [qh7]; exact this
theorem StF.root (F : StF r l m t b) {i : Nat} (h : i < l.length) : 0 ≤ (l.getD i zz3).1 ∧ (l.getD i zz3).1 < r := ⟨((qk7 l r 0 F.mesh).2.2.2.1 i h).1, ((qk7 l r 0 F.mesh).2.2.2.1 i h).2.1⟩
theorem StF.at (F : StF r l m t b) (i : Nat) : 0 ≤ m.getD i 0 ∧ m.getD i 0 ≤ 10000000 ∧ 0 ≤ t.getD i 0 ∧ t.getD i 0 ≤ 1000 * m.getD i 0 := qkv m t (by rw [F.ml, F.tl]) F.mt i
theorem StF.bedAt (F : StF r l m t b) (i : Nat) : 0 ≤ b.getD i 0 ∧ b.getD i 0 ≤ 1000000 := by
  by_cases h : i < b.length
  · exact qax b F.bed _ (qh4 h 0)
  · rw [qh3 (by omega)]; omega
theorem StF.mmem (F : StF r l m t b) : ∀ x ∈ m, 0 ≤ x ∧ x ≤ 1000000000000 := fun x hx => by have := (qkw m t (by rw [F.ml, F.tl]) F.mt).1 x hx; omega
theorem StF.tmem (F : StF r l m t b) : ∀ x ∈ t, 0 ≤ x ∧ x ≤ 1000000000000 := fun x hx => by have := (qkw m t (by rw [F.ml, F.tl]) F.mt).2 x hx; omega
theorem StF.msum (F : StF r l m t b) : 0 ≤ isum m ∧ isum m ≤ 10000000 := ⟨(qif m F.mmem).1, F.sum⟩
theorem StF.tsum (F : StF r l m t b) : 0 ≤ isum t ∧ isum t ≤ 128000000000000 := by
  have h := qif t F.tmem
  have := F.len; have := F.tl
  refine ⟨h.1, ?_⟩
  have : (t.length : Int) ≤ 128 := by omega
  calc isum t ≤ 1000000000000 * (t.length : Int) := h.2
    _ ≤ 1000000000000 * 128 := Int.mul_le_mul_of_nonneg_left this (by omega)
end
def surf (l : List Cell) (m b : List Int) (i : Nat) : Int := b.getD (l.getD i zz3).1.toNat 0 + m.getD i 0 * pow2 (l.getD i zz3).2.1
theorem qok {r : Int} {l : List Cell} {m t b : List Int} (F : StF r l m t b) (i : Nat) : 0 ≤ surf l m b i ∧ surf l m b i ≤ 161000000 := by
  have h1 := F.bedAt (l.getD i zz3).1.toNat
  have h2 := F.at i
  have h3 := mulp (F.lev i) h2.1
  unfold surf; omega
theorem qde (k : Nat) (hk : 2000000 ≤ k) (r : Int) (z1 z2 z3 z4 : Bool) (l : List Cell) (m t b : List Int) (F : StF r l m t b) (i : Nat) (hi : i < l.length) :
    go (k + 1) spec_l09Surface [.agg [.int .i64 r, .arr false z1 (.r3 l), .arr false z2 (.ints .i64 m), .arr false z3 (.ints .i64 t), .arr false z4 (.ints .i64 b)], .int .i64 (i : Int)] = some [.int .i64 (surf l m b i)] := by
  rw [qhb]
  have h1 := F.root hi; have h2 := F.ml; have h3 := F.bl; have h4 := F.lev i; have h5 := lev0 h4; have h6 := F.at i; have h7 := qok F i; have h8 := mulp h4 h6.1; have h9 := F.len
  unfold surf at h7 ⊢
  simp (disch := omega) only [qaz, nth0, nth1, nth2, nth3, bit, qdu, qdv, qd6, qeb, qec, qed, qee, qef, qeg, qeh, qdw, qdx, qdy, qdz, qd0, qd1, qd2, qd3, qd4, qd5, qd7, qd8, qd9, qea, qo2, qo1, qo3, qlg, ql2, ql3, qh9, qa5, qod, nI, qet, qer, Bool.not_true, Bool.not_false, Bool.and_true, Bool.true_and, Bool.and_false, Bool.false_and, Bool.or_true, Bool.true_or, Bool.or_false, Bool.false_or, beq_self_eq_true, dTT, dFF, dT, dF, bigI, big0, qlf, qpp, qpq, List.length_set, List.length_replicate, Int.toNat_natCast, qds, qdt, imax, imin, shp h4]
def gap (a b : Int) : Int := if b < a then a - b else b - a
theorem qdc (k : Nat) (hk : 2000000 ≤ k) (a : Int) (b : Int) (ha : -1000000000000 ≤ a ∧ a ≤ 1000000000000) (hb : -1000000000000 ≤ b ∧ b ≤ 1000000000000) : go (k + 1) spec_l09Gap [(.int .i64 (a)), (.int .i64 (b))] = some [.int .i64 (gap a b)] := by
  rw [qg9]
  unfold gap
  by_cases h : b < a
  · simp (disch := omega) only [qaz, nth0, nth1, nth2, nth3, bit, qdu, qdv, qd6, qeb, qec, qed, qee, qef, qeg, qeh, qdw, qdx, qdy, qdz, qd0, qd1, qd2, qd3, qd4, qd5, qd7, qd8, qd9, qea, qo2, qo1, qo3, qlg, ql2, ql3, qh9, qa5, qod, nI, qet, qer, Bool.not_true, Bool.not_false, Bool.and_true, Bool.true_and, Bool.and_false, Bool.false_and, Bool.or_true, Bool.true_or, Bool.or_false, Bool.false_or, beq_self_eq_true, dTT, dFF, dT, dF, bigI, big0, qlf, qpp, qpq, List.length_set, List.length_replicate, Int.toNat_natCast, qds, qdt, imax, imin]; rw [if_pos h]
  · simp (disch := omega) only [qaz, nth0, nth1, nth2, nth3, bit, qdu, qdv, qd6, qeb, qec, qed, qee, qef, qeg, qeh, qdw, qdx, qdy, qdz, qd0, qd1, qd2, qd3, qd4, qd5, qd7, qd8, qd9, qea, qo2, qo1, qo3, qlg, ql2, ql3, qh9, qa5, qod, nI, qet, qer, Bool.not_true, Bool.not_false, Bool.and_true, Bool.true_and, Bool.and_false, Bool.false_and, Bool.or_true, Bool.true_or, Bool.or_false, Bool.false_or, beq_self_eq_true, dTT, dFF, dT, dF, bigI, big0, qlf, qpp, qpq, List.length_set, List.length_replicate, Int.toNat_natCast, qds, qdt, imax, imin]; rw [if_neg h]
end Go.Proofs.Ytcaapedadpnjoaa
end
section
namespace Go.Proofs.Ytcaapedadpnjoaa
open Go.Ev
def tab (L : Nat) (g : Nat → Int) : List Int := (List.range L).map g
theorem qon (L : Nat) (g : Nat → Int) : (tab L g).length = L := by simp [tab]
theorem qom {L : Nat} {g : Nat → Int} {i : Nat} (h : i < L) : (tab L g).getD i 0 = g i := by simp [tab, h]
theorem qol {L : Nat} {g g' : Nat → Int} (h : ∀ j, j < L → g j = g' j) : tab L g = tab L g' := by
  unfold tab
  exact List.map_congr_left fun j hj => h j (by simpa using hj)
theorem qop {L : Nat} {g : Nat → Int} (i : Nat) (v : Int) : (tab L g).set i v = tab L (fun j => if j = i then v else g j) := by
  apply List.ext_getElem
  · simp [tab]
  · intro j h1 h2
    simp only [tab, List.getElem_set, List.getElem_map, List.getElem_range]
    by_cases h : i = j
    · simp [h]
    · rw [if_neg h, if_neg (fun e => h e.symm)]
theorem qoo (l : List Int) : l = tab l.length (fun j => l.getD j 0) := by
  apply List.ext_getElem
  · simp [tab]
  · intro j h1 h2
    simp [tab, h1]
theorem qor (L : Nat) : List.replicate L (0 : Int) = tab L (fun _ => 0) := by
  apply List.ext_getElem
  · simp [tab]
  · intro j h1 h2; simp [tab]
theorem qow {x y B : Int} (hy : 0 < y) (h : -B ≤ x) (h' : x ≤ B) : -B ≤ Int.tdiv x y ∧ Int.tdiv x y ≤ B := by
  by_cases hx : 0 ≤ x
  · rw [Int.tdiv_eq_ediv_of_nonneg hx]
    have h1 := Int.ediv_nonneg hx (by omega : 0 ≤ y)
    have h2 := Int.ediv_le_self y hx
    omega
  · obtain ⟨z, rfl⟩ : ∃ z, x = -z := ⟨-x, by omega⟩
    rw [Int.neg_tdiv, Int.tdiv_eq_ediv_of_nonneg (by omega : 0 ≤ z)]
    have h1 := Int.ediv_nonneg (by omega : 0 ≤ z) (by omega : 0 ≤ y)
    have h2 := Int.ediv_le_self y (by omega : 0 ≤ z)
    omega
theorem qld {x w A : Int} (hx : -A ≤ x) (hx' : x ≤ A) (hw : 0 ≤ w) (hw' : w ≤ 16) : -(16 * A) ≤ x * w ∧ x * w ≤ 16 * A := by
  have hA : 0 ≤ A := by omega
  have h1 : x * w ≤ A * w := Int.mul_le_mul_of_nonneg_right hx' hw
  have h2 : A * w ≤ A * 16 := Int.mul_le_mul_of_nonneg_left hw' hA
  have h3 : (-A) * w ≤ x * w := Int.mul_le_mul_of_nonneg_right hx hw
  have h4 : (-A) * w = -(A * w) := Int.neg_mul A w
  omega
def qnf (t p m : Int) : Int := cond (inR m 1 10000000 && (inR p 0 m && inR t 0 (1000 * m))) (Int.tdiv (t * p) m) 0
theorem qnj {t p m : Int} (hm : inR m 1 10000000 = true) (hp : inR p 0 m = true) (ht : inR t 0 (1000 * m) = true) : 0 ≤ t * p ∧ t * p ≤ 100000000000000000 := by
  rw [qh7] at *
  refine ⟨Int.mul_nonneg (by omega) (by omega), ?_⟩
  calc t * p ≤ 10000000000 * p := Int.mul_le_mul_of_nonneg_right (by omega) (by omega)
    _ ≤ 10000000000 * 10000000 := Int.mul_le_mul_of_nonneg_left (by omega) (by omega)
theorem qnh (t p m : Int) : 0 ≤ qnf t p m ∧ qnf t p m ≤ 100000000000000000 := by
  unfold qnf
  cases hm : inR m 1 10000000
  · simp
  cases hp : inR p 0 m
  · simp
  cases ht : inR t 0 (1000 * m)
  · simp
  have := qnj hm hp ht
  have hm' := qh7.1 hm
  simp only [Bool.and_self, qet]
  rw [Int.tdiv_eq_ediv_of_nonneg this.1]
  exact ⟨Int.ediv_nonneg this.1 (by omega), Int.le_trans (Int.ediv_le_self m this.1) this.2⟩
theorem qni {t p m : Int} (ht : 0 ≤ t) (hp : 0 ≤ p) (h : t ≤ 1000 * m) : qnf t p m ≤ 1000 * p := by
  unfold qnf
  cases hh : (inR m 1 10000000 && (inR p 0 m && inR t 0 (1000 * m)))
  · simp only [qer]; omega
  · simp only [Bool.and_eq_true, qh7] at hh
    simp only [qet]
    rw [Int.tdiv_eq_ediv_of_nonneg (Int.mul_nonneg ht hp)]
    apply Int.ediv_le_of_le_mul (by omega)
    calc t * p ≤ (1000 * m) * p := Int.mul_le_mul_of_nonneg_right h hp
      _ = 1000 * p * m := by rw [Int.mul_assoc, Int.mul_assoc, Int.mul_comm m p]
def loOk (t m r l : Int) : Bool := inR m 1 10000000 && (inR t 0 (1000 * m) && (inR r 0 m && inR l 0 (m - r)))
def loA (t m r l : Int) : Int := cond (loOk t m r l) (qnf t r m) 0
def loB (t m r l : Int) : Int := cond (loOk t m r l) (qnf t (r + l) m - qnf t r m) 0
def quo (sa sb la lb : Int) : Int := Int.tdiv ((sa - sb) * qpj (max lb la)) (32 * (qpj la + qpj lb))
def qlp (sa sb ma mb la lb : Int) : Int := max (0 - mb / 4) (min (ma / 4) (quo sa sb la lb))
def fl (l : List Cell) (m b : List Int) (i : Nat) : Int := qlp (surf l m b i) (surf l m b (i + 1)) (m.getD i 0) (m.getD (i + 1) 0) (qjk l i) (qjk l (i + 1))
def ff (t : Int) (l : List Cell) (m b : List Int) (i : Nat) : Int := cond (qai t l i) (fl l m b i) 0
theorem qhv {t : Int} {l : List Cell} {m b : List Int} {i : Nat} (h : l.length ≤ i + 1) : ff t l m b i = 0 := by
  unfold ff qai
  rw [dF (p := i + 1 < l.length) (by omega)]; rfl
theorem qhx {r : Int} {l : List Cell} {m t b : List Int} (F : StF r l m t b) (i : Nat) : 0 - m.getD (i + 1) 0 / 4 ≤ fl l m b i ∧ fl l m b i ≤ m.getD i 0 / 4 := by
  have h1 := F.at i; have h2 := F.at (i + 1)
  unfold fl qlp
  omega
theorem qhw {r : Int} {l : List Cell} {m t b : List Int} (F : StF r l m t b) (tk : Int) (i : Nat) : 0 - m.getD (i + 1) 0 / 4 ≤ ff tk l m b i ∧ ff tk l m b i ≤ m.getD i 0 / 4 := by
  have h1 := F.at i; have h2 := F.at (i + 1); have h3 := qhx F i
  unfold ff
  cases qai tk l i
  · simp only [qer]; omega
  · simp only [qet]; omega
def rgt (tk : Int) (l : List Cell) (m b : List Int) (i : Nat) : Int := max 0 (ff tk l m b i)
def lft (tk : Int) (l : List Cell) (m b : List Int) (i : Nat) : Int := if 1 ≤ i then max 0 (0 - ff tk l m b (i - 1)) else 0
def outA (tk : Int) (l : List Cell) (m t b : List Int) (i : Nat) : Int := loA (t.getD i 0) (m.getD i 0) (rgt tk l m b i) (lft tk l m b i)
def outB (tk : Int) (l : List Cell) (m t b : List Int) (i : Nat) : Int := loB (t.getD i 0) (m.getD i 0) (rgt tk l m b i) (lft tk l m b i)
def stM (tk : Int) (l : List Cell) (m b : List Int) (j : Nat) : Int := m.getD j 0 - ff tk l m b j + (if 1 ≤ j then ff tk l m b (j - 1) else 0)
def stT (tk : Int) (l : List Cell) (m t b : List Int) (j : Nat) : Int := t.getD j 0 - outA tk l m t b j - outB tk l m t b j + (if 1 ≤ j then outA tk l m t b (j - 1) else 0) + outB tk l m t b (j + 1)
theorem qjm (t m l : Int) : loA t m 0 l = 0 := by
  unfold loA qnf
  cases loOk t m 0 l
  · rfl
  · simp
theorem qjn (t m r : Int) : loB t m r 0 = 0 := by
  unfold loB
  cases loOk t m r 0
  · rfl
  · simp
theorem qlk {tk : Int} {l : List Cell} {m t b : List Int} {i : Nat} (h : rgt tk l m b i = 0) : outA tk l m t b i = 0 := by unfold outA; rw [h, qjm]
theorem qlm {tk : Int} {l : List Cell} {m t b : List Int} {i : Nat} (h : lft tk l m b i = 0) : outB tk l m t b i = 0 := by unfold outB; rw [h, qjn]
theorem qlj (tk : Int) (l : List Cell) (m t b : List Int) (i : Nat) : 0 ≤ outA tk l m t b i ∧ outA tk l m t b i ≤ 100000000000000000 := by
  unfold outA loA
  cases loOk (t.getD i 0) (m.getD i 0) (rgt tk l m b i) (lft tk l m b i)
  · simp
  · exact qnh _ _ _
theorem qll (tk : Int) (l : List Cell) (m t b : List Int) (i : Nat) : -100000000000000000 ≤ outB tk l m t b i ∧ outB tk l m t b i ≤ 100000000000000000 := by
  unfold outB loB
  cases loOk (t.getD i 0) (m.getD i 0) (rgt tk l m b i) (lft tk l m b i)
  · simp
  · have h1 := qnh (t.getD i 0) (rgt tk l m b i) (m.getD i 0)
    have h2 := qnh (t.getD i 0) (rgt tk l m b i + lft tk l m b i) (m.getD i 0)
    simp only [qet]; omega
def Tk (tk : Int) (l : List Cell) (m t b : List Int) (k j : Nat) : Int := t.getD j 0 - (if j < k then outA tk l m t b j + outB tk l m t b j else 0) + (if 1 ≤ j ∧ j ≤ k then outA tk l m t b (j - 1) else 0) + (if j + 1 < k then outB tk l m t b (j + 1) else 0)
def upd (G : Nat → Int) (i : Nat) (A B : Int) (j : Nat) : Int := if 1 ≤ i ∧ j = i - 1 then G j + B else if j = i + 1 then G j + A else if j = i then G j - A - B else G j
theorem qpb {G : Nat → Int} {i : Nat} {A B : Int} (g : 1 ≤ i) : (fun j => if j = i - 1 then G (i - 1) + B else if j = i + 1 then G (i + 1) + A else if j = i then G i - A - B else G j) = upd G i A B := by
  funext j
  unfold upd
  by_cases q1 : j = i - 1
  · rw [if_pos q1, if_pos ⟨g, q1⟩, q1]
  · rw [if_neg q1, if_neg (show ¬ (1 ≤ i ∧ j = i - 1) from fun hh => q1 hh.2)]
    by_cases q2 : j = i + 1
    · rw [if_pos q2, if_pos q2, q2]
    · rw [if_neg q2, if_neg q2]
      by_cases q3 : j = i
      · rw [if_pos q3, if_pos q3, q3]
      · rw [if_neg q3, if_neg q3]
theorem qpa {G : Nat → Int} {i : Nat} {A B : Int} (hB : B = 0) : (fun j => if j = i + 1 then G (i + 1) + A else if j = i then G i - A - B else G j) = upd G i A B := by
  funext j
  unfold upd
  by_cases q1 : 1 ≤ i ∧ j = i - 1
  · rw [if_pos q1, if_neg (by omega), if_neg (by omega), hB]; omega
  · rw [if_neg q1]
    by_cases q2 : j = i + 1
    · rw [if_pos q2, if_pos q2, q2]
    · rw [if_neg q2, if_neg q2]
      by_cases q3 : j = i
      · rw [if_pos q3, if_pos q3, q3]
      · rw [if_neg q3, if_neg q3]
theorem qo9 {G : Nat → Int} {i : Nat} {A B : Int} (g : 1 ≤ i) (hA : A = 0) : (fun j => if j = i - 1 then G (i - 1) + B else if j = i then G i - A - B else G j) = upd G i A B := by
  funext j
  unfold upd
  by_cases q1 : j = i - 1
  · rw [if_pos q1, if_pos ⟨g, q1⟩, q1]
  · rw [if_neg q1, if_neg (show ¬ (1 ≤ i ∧ j = i - 1) from fun hh => q1 hh.2)]
    by_cases q2 : j = i + 1
    · rw [if_pos q2, if_neg (by omega), hA]; omega
    · rw [if_neg q2]
      by_cases q3 : j = i
      · rw [if_pos q3, if_pos q3, q3]
      · rw [if_neg q3, if_neg q3]
theorem qo8 {G : Nat → Int} {i : Nat} {A B : Int} (hA : A = 0) (hB : B = 0) : (fun j => if j = i then G i - A - B else G j) = upd G i A B := by
  funext j
  unfold upd
  by_cases q1 : 1 ≤ i ∧ j = i - 1
  · rw [if_pos q1, if_neg (by omega), hB]; omega
  · rw [if_neg q1]
    by_cases q2 : j = i + 1
    · rw [if_pos q2, if_neg (by omega), hA]; omega
    · rw [if_neg q2]
      by_cases q3 : j = i
      · rw [if_pos q3, if_pos q3, q3]
      · rw [if_neg q3, if_neg q3]
theorem qag (tk : Int) (l : List Cell) (m t b : List Int) (i : Nat) (hi : i < l.length) :
    tab l.length (upd (Tk tk l m t b i) i (outA tk l m t b i) (outB tk l m t b i)) = tab l.length (Tk tk l m t b (i + 1)) := qol fun j hj => by
  unfold upd
  by_cases g1 : 1 ≤ i ∧ j = i - 1
  · obtain ⟨g1, rfl⟩ := g1
    rw [if_pos ⟨g1, rfl⟩]
    unfold Tk
    rw [if_pos (show i - 1 < i by omega), if_neg (show ¬ (i - 1 + 1 < i) by omega), if_pos (show i - 1 < i + 1 by omega), if_pos (show i - 1 + 1 < i + 1 by omega), show i - 1 + 1 = i by omega]
    have e2 : (1 ≤ i - 1 ∧ i - 1 ≤ i) = (1 ≤ i - 1 ∧ i - 1 ≤ i + 1) := by rw [eq_iff_iff]; omega
    simp only [e2]; omega
  · rw [if_neg g1]
    by_cases g2 : j = i + 1
    · subst g2
      rw [if_pos rfl]
      unfold Tk
      rw [if_neg (show ¬ (i + 1 < i) by omega), if_neg (show ¬ (1 ≤ i + 1 ∧ i + 1 ≤ i) by omega), if_neg (show ¬ (i + 1 + 1 < i) by omega), if_neg (show ¬ (i + 1 < i + 1) by omega), if_pos (show 1 ≤ i + 1 ∧ i + 1 ≤ i + 1 by omega), if_neg (show ¬ (i + 1 + 1 < i + 1) by omega), Nat.add_sub_cancel]; omega
    · rw [if_neg g2]
      by_cases g3 : j = i
      · subst g3
        rw [if_pos rfl]
        unfold Tk
        rw [if_neg (show ¬ (j < j) by omega), if_neg (show ¬ (j + 1 < j) by omega), if_pos (show j < j + 1 by omega), if_neg (show ¬ (j + 1 < j + 1) by omega)]
        have e2 : (1 ≤ j ∧ j ≤ j) = (1 ≤ j ∧ j ≤ j + 1) := by rw [eq_iff_iff]; omega
        simp only [e2]; omega
      · rw [if_neg g3]
        unfold Tk
        have e1 : (j < i) = (j < i + 1) := by rw [eq_iff_iff]; omega
        have e2 : (1 ≤ j ∧ j ≤ i) = (1 ≤ j ∧ j ≤ i + 1) := by rw [eq_iff_iff]; omega
        have e3 : (j + 1 < i) = (j + 1 < i + 1) := by rw [eq_iff_iff]; omega
        simp only [e1, e2, e3]
theorem qaf (tk : Int) (l : List Cell) (m t b : List Int) (hm : m.length = l.length) : tab l.length (Tk tk l m t b l.length) = tab l.length (stT tk l m t b) := qol fun j hj => by
  unfold Tk stT
  rw [if_pos hj]
  have e2 : (1 ≤ j ∧ j ≤ l.length) = (1 ≤ j) := by rw [eq_iff_iff]; omega
  simp only [e2]
  by_cases g : j + 1 < l.length
  · rw [if_pos g]; omega
  · rw [if_neg g]
    have : outB tk l m t b (j + 1) = 0 := by
      apply qlm
      unfold lft
      rw [if_pos (by omega), Nat.add_sub_cancel, qhv (by omega)]; rfl
    omega
theorem qah (tk : Int) (l : List Cell) (m t b : List Int) (ht : t.length = l.length) : t = tab l.length (Tk tk l m t b 0) := by
  have h := qoo t
  rw [ht] at h
  refine h.trans (qol fun j hj => ?_)
  unfold Tk
  rw [if_neg (by omega), if_neg (by omega), if_neg (by omega)]; omega
end Go.Proofs.Ytcaapedadpnjoaa
end
section
namespace Go.Proofs.Ytcaapedadpnjoaa
open Go.Ev
set_option maxRecDepth 20000
theorem qdr {i : Nat} (h : 2 ≤ i) : (i : Int) - 2 = ((i - 2 : Nat) : Int) := by omega
theorem qbc (k : Nat) (hk : 2000000 ≤ k) (a b : Int) (ha : 0 ≤ a) (ha' : a ≤ 1000000000000) (hb : 0 < b) : go (k + 1) impl_DivFloor [.int .i64 a, .int .i64 b] = some [.int .i64 (Int.tdiv a b)] := by
  rw [qe6]
  have := qow (x := a) (y := b) (B := 1000000000000) hb (by omega) ha'
  have q : 0 ≤ Int.tmod a b := Int.tmod_nonneg b ha
  simp (disch := omega) only [qaz, nth0, nth1, nth2, nth3, bit, qdu, qdv, qd6, qeb, qec, qed, qee, qef, qeg, qeh, qdw, qdx, qdy, qdz, qd0, qd1, qd2, qd3, qd4, qd5, qd7, qd8, qd9, qea, qo2, qo1, qo3, qlg, ql2, ql3, qh9, qa5, qod, nI, qet, qer, Bool.not_true, Bool.not_false, Bool.and_true, Bool.true_and, Bool.and_false, Bool.false_and, Bool.or_true, Bool.true_or, Bool.or_false, Bool.false_or, beq_self_eq_true, dTT, dFF, dT, dF, bigI, big0, qlf, qpp, qpq, List.length_set, List.length_replicate, Int.toNat_natCast, qds, qdt, imax, imin]
def qlz (x q : Int) : Int := Int.tdiv (2 * x + q) (2 * q)
theorem ql0 {x q : Int} (hx : 0 ≤ x ∧ x ≤ 10000000) (hq : 1 ≤ q ∧ q ≤ 1000000) : 0 ≤ qlz x q ∧ qlz x q ≤ 10000001 := by
  unfold qlz
  rw [Int.tdiv_eq_ediv_of_nonneg (by omega)]
  exact ⟨Int.ediv_nonneg (by omega) (by omega), Int.ediv_le_of_le_mul (by omega) (by omega)⟩
theorem qbv (k : Nat) (hk : 2000000 ≤ k) (a : Int) : go (k + 2) impl_isQuantum [(.int .i64 (a))] = some [.bool (inR a 1 1000000)] := by
  rw [qfs]
  simp (disch := omega) only [qaz, nth0, nth1, nth2, nth3, bit, qdu, qdv, qd6, qeb, qec, qed, qee, qef, qeg, qeh, qdw, qdx, qdy, qdz, qd0, qd1, qd2, qd3, qd4, qd5, qd7, qd8, qd9, qea, qo2, qo1, qo3, qlg, ql2, ql3, qh9, qa5, qod, nI, qet, qer, Bool.not_true, Bool.not_false, Bool.and_true, Bool.true_and, Bool.and_false, Bool.false_and, Bool.or_true, Bool.true_or, Bool.or_false, Bool.false_or, beq_self_eq_true, dTT, dFF, dT, dF, bigI, big0, qlf, qpp, qpq, List.length_set, List.length_replicate, Int.toNat_natCast, qds, qdt, imax, imin, qby]
theorem qbu (k : Nat) (hk : 2000000 ≤ k) (a : Int) : go (k + 2) impl_isMass [(.int .i64 (a))] = some [.bool (inR a 0 10000000)] := by
  rw [qfr]
  simp (disch := omega) only [qaz, nth0, nth1, nth2, nth3, bit, qdu, qdv, qd6, qeb, qec, qed, qee, qef, qeg, qeh, qdw, qdx, qdy, qdz, qd0, qd1, qd2, qd3, qd4, qd5, qd7, qd8, qd9, qea, qo2, qo1, qo3, qlg, ql2, ql3, qh9, qa5, qod, nI, qet, qer, Bool.not_true, Bool.not_false, Bool.and_true, Bool.true_and, Bool.and_false, Bool.false_and, Bool.or_true, Bool.true_or, Bool.or_false, Bool.false_or, beq_self_eq_true, dTT, dFF, dT, dF, bigI, big0, qlf, qpp, qpq, List.length_set, List.length_replicate, Int.toNat_natCast, qds, qdt, imax, imin, qby]
theorem qbg (k : Nat) (hk : 2000000 ≤ k) (x q : Int) (hx : inR x 0 10000000 = true) (hq : inR q 1 1000000 = true) : go (k + 3) impl_Quantize [.int .i64 x, .int .i64 q] = some [.int .i64 (qlz x q)] := by
  have i1 := qh7.1 hx; have i2 := qh7.1 hq
  have e1 : inR q 1 2147483647 = true := qh7.2 ⟨by omega, by omega⟩
  have e2 : inR x (-1000000000000000) 1000000000000000 = true := qh7.2 ⟨by omega, by omega⟩
  rw [qfd]
  simp (disch := omega) only [qaz, nth0, nth1, nth2, nth3, bit, qdu, qdv, qd6, qeb, qec, qed, qee, qef, qeg, qeh, qdw, qdx, qdy, qdz, qd0, qd1, qd2, qd3, qd4, qd5, qd7, qd8, qd9, qea, qo2, qo1, qo3, qlg, ql2, ql3, qh9, qa5, qod, nI, qet, qer, Bool.not_true, Bool.not_false, Bool.and_true, Bool.true_and, Bool.and_false, Bool.false_and, Bool.or_true, Bool.true_or, Bool.or_false, Bool.false_or, beq_self_eq_true, dTT, dFF, dT, dF, bigI, big0, qlf, qpp, qpq, List.length_set, List.length_replicate, Int.toNat_natCast, qds, qdt, imax, imin, qbv, qbu, qby, hx, hq, qe7, e1, e2, qbc]
  rfl
def comp (q : Int) : List Int → Int → List Int → List Int
  | [], _, out => out
  | x :: l, last, out => comp q l (qlz x q) (if 0 < out.length ∧ out.getD (out.length - 1) 0 = qlz x q - last then out.set (out.length - 2) (out.getD (out.length - 2) 0 + 1) else out ++ [1, qlz x q - last])
theorem qeo (q : Int) : ∀ (l : List Int) (last : Int) (out : List Int), (comp q l last out).length ≤ out.length + 2 * l.length
  | [], last, out => by simp [comp]
  | x :: l, last, out => by
    unfold comp
    refine Nat.le_trans (qeo q l _ _) ?_
    split
    · simp; omega
    · simp; omega
theorem qao {out : List Int} {a b : Int} {B : Int} (ha : 0 ≤ a ∧ a ≤ B) (hb : -100000000 ≤ b ∧ b ≤ B) (h : ∀ j, -100000000 ≤ out.getD j 0 ∧ out.getD j 0 ≤ B) : ∀ j, -100000000 ≤ (out ++ [a, b]).getD j 0 ∧ (out ++ [a, b]).getD j 0 ≤ B := fun j => by
  rw [List.getD_eq_getElem?_getD]
  by_cases g : j < out.length
  · rw [List.getElem?_append_left g, ← List.getD_eq_getElem?_getD]; exact h j
  · rw [List.getElem?_append_right (by omega)]
    rcases Nat.lt_or_ge (j - out.length) 2 with g2 | g2
    · have : j - out.length = 0 ∨ j - out.length = 1 := by omega
      rcases this with e | e <;> rw [e] <;> simp <;> omega
    · rw [List.getElem?_eq_none (by simpa using g2)]; simp; omega
theorem qj0 (k : Nat) (hk : 2000000 ≤ k) (fu : List (Nat × Nat)) (q : Int) (z : Bool) (l : List Int) (hL : (l.length : Int) ≤ 1000) (hq : inR q 1 1000000 = true) (hm : ∀ x ∈ l, 0 ≤ x ∧ x ≤ 10000000) : ∀ (n i : Nat) (last : Int) (out : List Int), i ≤ l.length → l.length - i < n → 0 ≤ last ∧ last ≤ 10000001 → out.length % 2 = 0 → out.length ≤ 2 * i → (∀ j, -100000000 ≤ out.getD j 0 ∧ out.getD j 0 ≤ 100000000 + i) →
    lp (k + 3) impl_CompressList [] fu 6 (n) (qmf q last (l.length : Int) (i : Int) false out z l) = some [.arr true false (.ints .i64 (comp q (l.drop i) last out)), .bool true]
  | 0, i, last, out, hi, hn, hl, he, ho, hb => by omega
  | n + 1, i, last, out, hi, hn, hl, he, ho, hb => by
    rw [qil]
    by_cases h : i < l.length
    · have hx := hm _ (qh4 h 0)
      have hx' : inR (l.getD i 0) 0 10000000 = true := qh7.2 hx
      have hqq := ql0 hx (qh7.1 hq)
      rw [qe3 h 0, comp]
      by_cases g : 0 < out.length
      · have b2 := hb (out.length - 2)
        by_cases g2 : out.getD (out.length - 1) 0 = qlz (l.getD i 0) q - last
        · have e := qj0 k hk fu q z l hL hq hm n (i + 1) (qlz (l.getD i 0) q) (out.set (out.length - 2) (out.getD (out.length - 2) 0 + 1)) (by omega) (by omega) hqq (by simpa using he) (by simp; omega) (fun j => by
            rw [qne]
            have := hb j
            split <;> omega)
          rw [if_pos ⟨g, g2⟩]
          simp (disch := omega) only [qaz, nth0, nth1, nth2, nth3, bit, qdu, qdv, qd6, qeb, qec, qed, qee, qef, qeg, qeh, qdw, qdx, qdy, qdz, qd0, qd1, qd2, qd3, qd4, qd5, qd7, qd8, qd9, qea, qo2, qo1, qo3, qlg, ql2, ql3, qh9, qa5, qod, nI, qet, qer, Bool.not_true, Bool.not_false, Bool.and_true, Bool.true_and, Bool.and_false, Bool.false_and, Bool.or_true, Bool.true_or, Bool.or_false, Bool.false_or, beq_self_eq_true, dTT, dFF, dT, dF, bigI, big0, qlf, qpp, qpq, List.length_set, List.length_replicate, Int.toNat_natCast, qds, qdt, imax, imin, qbu, hx', qbg, qdq, qdr, e]
        · have e := qj0 k hk fu q z l hL hq hm n (i + 1) (qlz (l.getD i 0) q) (out ++ [1, qlz (l.getD i 0) q - last]) (by omega) (by omega) hqq (by simp; omega) (by simp; omega) (fun j => by
            have := qao (out := out) (a := 1) (b := qlz (l.getD i 0) q - last) (B := 100000000 + i) (by omega) (by omega) hb j
            omega)
          have hlen : (out ++ [1, qlz (l.getD i 0) q - last]).length = out.length + 2 := by simp
          rw [if_neg (fun hh => g2 hh.2)]
          simp (disch := omega) only [qaz, nth0, nth1, nth2, nth3, bit, qdu, qdv, qd6, qeb, qec, qed, qee, qef, qeg, qeh, qdw, qdx, qdy, qdz, qd0, qd1, qd2, qd3, qd4, qd5, qd7, qd8, qd9, qea, qo2, qo1, qo3, qlg, ql2, ql3, qh9, qa5, qod, nI, qet, qer, Bool.not_true, Bool.not_false, Bool.and_true, Bool.true_and, Bool.and_false, Bool.false_and, Bool.or_true, Bool.true_or, Bool.or_false, Bool.false_or, beq_self_eq_true, dTT, dFF, dT, dF, bigI, big0, qlf, qpp, qpq, List.length_set, List.length_replicate, Int.toNat_natCast, qds, qdt, imax, imin, qbu, hx', qbg, qdq, qdr, hlen, big0, e]
      · have e := qj0 k hk fu q z l hL hq hm n (i + 1) (qlz (l.getD i 0) q) (out ++ [1, qlz (l.getD i 0) q - last]) (by omega) (by omega) hqq (by simp; omega) (by simp; omega) (fun j => by
          have := qao (out := out) (a := 1) (b := qlz (l.getD i 0) q - last) (B := 100000000 + i) (by omega) (by omega) hb j
          omega)
        have hlen : (out ++ [1, qlz (l.getD i 0) q - last]).length = out.length + 2 := by simp
        rw [if_neg (fun hh => g hh.1)]
        simp (disch := omega) only [qaz, nth0, nth1, nth2, nth3, bit, qdu, qdv, qd6, qeb, qec, qed, qee, qef, qeg, qeh, qdw, qdx, qdy, qdz, qd0, qd1, qd2, qd3, qd4, qd5, qd7, qd8, qd9, qea, qo2, qo1, qo3, qlg, ql2, ql3, qh9, qa5, qod, nI, qet, qer, Bool.not_true, Bool.not_false, Bool.and_true, Bool.true_and, Bool.and_false, Bool.false_and, Bool.or_true, Bool.true_or, Bool.or_false, Bool.false_or, beq_self_eq_true, dTT, dFF, dT, dF, bigI, big0, qlf, qpp, qpq, List.length_set, List.length_replicate, Int.toNat_natCast, qds, qdt, imax, imin, qbu, hx', qbg, qdq, qdr, hlen, big0, e]
    · rw [List.drop_of_length_le (by omega : l.length ≤ i)]
      simp (disch := omega) only [qaz, nth0, nth1, nth2, nth3, bit, qdu, qdv, qd6, qeb, qec, qed, qee, qef, qeg, qeh, qdw, qdx, qdy, qdz, qd0, qd1, qd2, qd3, qd4, qd5, qd7, qd8, qd9, qea, qo2, qo1, qo3, qlg, ql2, ql3, qh9, qa5, qod, nI, qet, qer, Bool.not_true, Bool.not_false, Bool.and_true, Bool.true_and, Bool.and_false, Bool.false_and, Bool.or_true, Bool.true_or, Bool.or_false, Bool.false_or, beq_self_eq_true, dTT, dFF, dT, dF, bigI, big0, qlf, qpp, qpq, List.length_set, List.length_replicate, Int.toNat_natCast, qds, qdt, imax, imin]
      rfl
theorem qba (k : Nat) (hk : 2000000 ≤ k) (az : Bool) (a : List Int) (b : Int) (hL : (a.length : Int) ≤ 1000) (hq : inR b 1 1000000 = true) (hm : ∀ x ∈ a, 0 ≤ x ∧ x ≤ 10000000) : go (k + 4) impl_CompressList [(.arr false (az) (.ints .i64 (a))), (.int .i64 (b))] = some [.arr true false (.ints .i64 (comp b a 0 [])), .bool true] := by
  rw [qe4]
  have e := qj0 k hk [] b az a hL hq hm (k + 3) 0 0 [] (by omega) (by omega) (by omega) (by simp) (by simp) (fun j => by simp)
  rw [List.drop_zero] at e
  simp (disch := omega) only [qaz, nth0, nth1, nth2, nth3, bit, qdu, qdv, qd6, qeb, qec, qed, qee, qef, qeg, qeh, qdw, qdx, qdy, qdz, qd0, qd1, qd2, qd3, qd4, qd5, qd7, qd8, qd9, qea, qo2, qo1, qo3, qlg, ql2, ql3, qh9, qa5, qod, nI, qet, qer, Bool.not_true, Bool.not_false, Bool.and_true, Bool.true_and, Bool.and_false, Bool.false_and, Bool.or_true, Bool.true_or, Bool.or_false, Bool.false_or, beq_self_eq_true, dTT, dFF, dT, dF, bigI, big0, qlf, qpp, qpq, List.length_set, List.length_replicate, Int.toNat_natCast, qds, qdt, imax, imin, qbv, hq]
  exact e
theorem StF.m7 {r : Int} {l : List Cell} {m t b : List Int} (F : StF r l m t b) : ∀ x ∈ m, 0 ≤ x ∧ x ≤ 10000000 := (qkw m t (by rw [F.ml, F.tl]) F.mt).1
abbrev qhp : D := .agg [.int .i64 0, .int .i64 0, .arr true true (.r3 []), .int .i64 0, .int .i64 0, .int .i64 0, .arr true true (.ints .i64 [])]
theorem qbm (k : Nat) (hk : 2000000 ≤ k) (a0 : Int) (a1 : List Cell) (a2 a3 a4 : List Int) (b c : Int) (h1 : (a1.length : Int) ≤ 1048576) (h4 : (a4.length : Int) ≤ 1048576) :
    go (k + 9) impl_WriteFrame [.agg [.int .i64 (a0), .arr false (false) (.r3 (a1)), .arr false (false) (.ints .i64 (a2)), .arr false (false) (.ints .i64 (a3)), .arr false (false) (.ints .i64 (a4))], .int .i64 b, .int .i64 c] = cond (stOk a0 a1 a2 a3 a4 && (decide (0 ≤ b) && inR c 1 1000000)) (some [.agg [.int .i64 b, .int .i64 a0, .arr true false (.r3 a1), .int .i64 (isum a2), .int .i64 (isum a3), .int .i64 c, .arr true false (.ints .i64 (comp c a2 0 []))], .bool true]) (some [qhp, .bool false]) := by
  rw [qfl]
  simp (disch := omega) only [qaz, nth0, nth1, nth2, nth3, bit, qdu, qdv, qd6, qeb, qec, qed, qee, qef, qeg, qeh, qdw, qdx, qdy, qdz, qd0, qd1, qd2, qd3, qd4, qd5, qd7, qd8, qd9, qea, qo2, qo1, qo3, qlg, ql2, ql3, qh9, qa5, qod, nI, qet, qer, Bool.not_true, Bool.not_false, Bool.and_true, Bool.true_and, Bool.and_false, Bool.false_and, Bool.or_true, Bool.true_or, Bool.or_false, Bool.false_or, beq_self_eq_true, dTT, dFF, dT, dF, bigI, big0, qlf, qpp, qpq, List.length_set, List.length_replicate, Int.toNat_natCast, qds, qdt, imax, imin, qbj, qbv]
  cases g : stOk a0 a1 a2 a3 a4
  · simp only [Bool.not_false, qet, qer, Bool.false_and]
  have F := stF.1 g
  have := F.len; have := F.ml; have := F.tl; have := F.bl; have := F.rr
  by_cases gb : 0 ≤ b
  case neg => simp (disch := omega) only [qaz, nth0, nth1, nth2, nth3, bit, qdu, qdv, qd6, qeb, qec, qed, qee, qef, qeg, qeh, qdw, qdx, qdy, qdz, qd0, qd1, qd2, qd3, qd4, qd5, qd7, qd8, qd9, qea, qo2, qo1, qo3, qlg, ql2, ql3, qh9, qa5, qod, nI, qet, qer, Bool.not_true, Bool.not_false, Bool.and_true, Bool.true_and, Bool.and_false, Bool.false_and, Bool.or_true, Bool.true_or, Bool.or_false, Bool.false_or, beq_self_eq_true, dTT, dFF, dT, dF, bigI, big0, qlf, qpp, qpq, List.length_set, List.length_replicate, Int.toNat_natCast, qds, qdt, imax, imin]
  cases g2 : inR c 1 1000000
  · simp (disch := omega) only [qaz, nth0, nth1, nth2, nth3, bit, qdu, qdv, qd6, qeb, qec, qed, qee, qef, qeg, qeh, qdw, qdx, qdy, qdz, qd0, qd1, qd2, qd3, qd4, qd5, qd7, qd8, qd9, qea, qo2, qo1, qo3, qlg, ql2, ql3, qh9, qa5, qod, nI, qet, qer, Bool.not_true, Bool.not_false, Bool.and_true, Bool.true_and, Bool.and_false, Bool.false_and, Bool.or_true, Bool.true_or, Bool.or_false, Bool.false_or, beq_self_eq_true, dTT, dFF, dT, dF, bigI, big0, qlf, qpp, qpq, List.length_set, List.length_replicate, Int.toNat_natCast, qds, qdt, imax, imin]
  simp (disch := omega) only [qaz, nth0, nth1, nth2, nth3, bit, qdu, qdv, qd6, qeb, qec, qed, qee, qef, qeg, qeh, qdw, qdx, qdy, qdz, qd0, qd1, qd2, qd3, qd4, qd5, qd7, qd8, qd9, qea, qo2, qo1, qo3, qlg, ql2, ql3, qh9, qa5, qod, nI, qet, qer, Bool.not_true, Bool.not_false, Bool.and_true, Bool.true_and, Bool.and_false, Bool.false_and, Bool.or_true, Bool.true_or, Bool.or_false, Bool.false_or, beq_self_eq_true, dTT, dFF, dT, dF, bigI, big0, qlf, qpp, qpq, List.length_set, List.length_replicate, Int.toNat_natCast, qds, qdt, imax, imin]
  rw [qba _ (by omega) _ _ _ (by omega) g2 F.m7]
  simp (disch := omega) only [qaz, nth0, nth1, nth2, nth3, bit, qdu, qdv, qd6, qeb, qec, qed, qee, qef, qeg, qeh, qdw, qdx, qdy, qdz, qd0, qd1, qd2, qd3, qd4, qd5, qd7, qd8, qd9, qea, qo2, qo1, qo3, qlg, ql2, ql3, qh9, qa5, qod, nI, qet, qer, Bool.not_true, Bool.not_false, Bool.and_true, Bool.true_and, Bool.and_false, Bool.false_and, Bool.or_true, Bool.true_or, Bool.or_false, Bool.false_or, beq_self_eq_true, dTT, dFF, dT, dF, bigI, big0, qlf, qpp, qpq, List.length_set, List.length_replicate, Int.toNat_natCast, qds, qdt, imax, imin, qbo]
  rw [qbw _ (by omega) _ _ (by omega) F.mmem, qbw _ (by omega) _ _ (by omega) F.tmem]
  simp (disch := omega) only [qaz, nth0, nth1, nth2, nth3, bit, qdu, qdv, qd6, qeb, qec, qed, qee, qef, qeg, qeh, qdw, qdx, qdy, qdz, qd0, qd1, qd2, qd3, qd4, qd5, qd7, qd8, qd9, qea, qo2, qo1, qo3, qlg, ql2, ql3, qh9, qa5, qod, nI, qet, qer, Bool.not_true, Bool.not_false, Bool.and_true, Bool.true_and, Bool.and_false, Bool.false_and, Bool.or_true, Bool.true_or, Bool.or_false, Bool.false_or, beq_self_eq_true, dTT, dFF, dT, dF, bigI, big0, qlf, qpp, qpq, List.length_set, List.length_replicate, Int.toNat_natCast, qds, qdt, imax, imin]
end Go.Proofs.Ytcaapedadpnjoaa
end
section
namespace Go.Proofs.Ytcaapedadpnjoaa
open Go.Ev
abbrev Rn := Nat × Int
def flat : List Rn → List Int
  | [] => []
  | r :: l => (r.1 : Int) :: r.2 :: flat l
theorem qhy : ∀ a b, flat (a ++ b) = flat a ++ flat b
  | [], b => rfl
  | r :: a, b => by simp [flat, qhy a b]
theorem qhz : ∀ a, (flat a).length = 2 * a.length
  | [] => rfl
  | r :: a => by simp [flat, qhz a]; omega
def vN (v d : Int) : Nat → Int
  | 0 => v
  | n + 1 => vN v d n + d
def steps (v d : Int) : Nat → List Int
  | 0 => []
  | n + 1 => steps v d n ++ [vN v d (n + 1)]
theorem qob (v d : Int) : ∀ n, (steps v d n).length = n
  | 0 => rfl
  | n + 1 => by simp [steps, qob v d n]
theorem qoc (v d : Int) : ∀ (n i : Nat), i < n → vN v d (i + 1) ∈ steps v d n
  | 0, i, h => by omega
  | n + 1, i, h => by
    rw [steps, List.mem_append]
    by_cases g : i < n
    · exact .inl (qoc v d n i g)
    · obtain rfl : i = n := by omega
      exact .inr (List.mem_singleton.2 rfl)
def vals : Int → List Rn → List Int
  | _, [] => []
  | v, r :: l => steps v r.2 r.1 ++ vals (vN v r.2 r.1) l
def endv : Int → List Rn → Int
  | v, [] => v
  | v, r :: l => endv (vN v r.2 r.1) l
theorem qph : ∀ (a b : List Rn) (v : Int), vals v (a ++ b) = vals v a ++ vals (endv v a) b
  | [], b, v => rfl
  | r :: a, b, v => by simp [vals, endv, qph a b]
theorem qht : ∀ (a b : List Rn) (v : Int), endv v (a ++ b) = endv (endv v a) b
  | [], b, v => rfl
  | r :: a, b, v => by simp [endv, qht a b]
theorem qno {α : Type} : ∀ (P : List α), P = [] ∨ ∃ P0 r, P = P0 ++ [r]
  | [] => .inl rfl
  | x :: l => .inr (match qno l with
    | .inl h => ⟨[], x, by rw [h]; rfl⟩
    | .inr ⟨P0, r, h⟩ => ⟨x :: P0, r, by rw [h]; rfl⟩)
def Alt (P : List Rn) : Prop := ∀ P1 a b P2, P = P1 ++ a :: b :: P2 → a.2 ≠ b.2
theorem qan {P0 : List Rn} {r s : Rn} (h : Alt (P0 ++ [r])) (hd : r.2 ≠ s.2) : Alt (P0 ++ [r] ++ [s]) := by
  intro P1 a b P2 e
  rcases qno P2 with rfl | ⟨Q, c, rfl⟩
  · rw [show P1 ++ a :: [b] = P1 ++ [a] ++ [b] by simp] at e
    obtain ⟨e1, e2⟩ := List.append_inj' e rfl
    obtain ⟨e3, e4⟩ := List.append_inj' e1 rfl
    cases e2; cases e4; exact hd
  · rw [show P1 ++ a :: b :: (Q ++ [c]) = P1 ++ a :: b :: Q ++ [c] by simp] at e
    exact h P1 a b Q (List.append_inj' e rfl).1
theorem qak {P0 : List Rn} {r s : Rn} (h : Alt (P0 ++ [r])) (hd : r.2 = s.2) : Alt (P0 ++ [s]) := by
  intro P1 a b P2 e
  rcases qno P2 with rfl | ⟨Q, c, rfl⟩
  · rw [show P1 ++ a :: [b] = P1 ++ [a] ++ [b] by simp] at e
    obtain ⟨e1, e2⟩ := List.append_inj' e rfl
    cases e2
    rw [← hd]
    exact h P1 a r [] (by rw [e1]; simp)
  · rw [show P1 ++ a :: b :: (Q ++ [c]) = P1 ++ a :: b :: Q ++ [c] by simp] at e
    exact h P1 a b (Q ++ [r]) (by rw [(List.append_inj' e rfl).1]; simp)
theorem qal : Alt [] := fun P1 a b P2 e => by simp at e
theorem qam (r : Rn) : Alt [r] := by
  intro P1 a b P2 e
  have := congrArg List.length e
  simp at this
  omega
theorem ql1 {x q : Int} (hx : 0 ≤ x) (hq : 1 ≤ q) : 0 ≤ qlz x q ∧ qlz x q ≤ x ∧ 2 * (q * qlz x q) ≤ 2 * x + q ∧ 2 * x - q ≤ 2 * (q * qlz x q) := by
  unfold qlz
  rw [Int.tdiv_eq_ediv_of_nonneg (by omega)]
  obtain ⟨D, hD⟩ : ∃ D, (2 * x + q) / (2 * q) = D := ⟨_, rfl⟩
  have h0 : 0 ≤ D := by rw [← hD]; exact Int.ediv_nonneg (by omega) (by omega)
  have h1 : 2 * q * D ≤ 2 * x + q := by rw [← hD]; exact Int.mul_ediv_self_le (by omega)
  have h2 : 2 * x + q < 2 * q * D + 2 * q := by
    have := Int.lt_mul_ediv_self_add (x := 2 * x + q) (k := 2 * q) (by omega)
    rw [hD] at this; exact this
  rw [hD]
  have e : 2 * q * D = 2 * (q * D) := Int.mul_assoc 2 q D
  rw [e] at h1 h2
  refine ⟨h0, ?_, by omega, by omega⟩
  refine Classical.byContradiction fun h => ?_
  have h3 : q * (x + 1) ≤ q * D := Int.mul_le_mul_of_nonneg_left (by omega) (by omega)
  have h4 : x ≤ q * x := by
    have := Int.mul_le_mul_of_nonneg_right hq hx
    rwa [Int.one_mul] at this
  rw [Int.mul_add, Int.mul_one] at h3
  omega
structure Cm (q : Int) (pre : List Int) (last : Int) (P : List Rn) : Prop where
  v : vals 0 P = pre.map fun x => qlz x q
  e : endv 0 P = last
  p : ∀ r ∈ P, 1 ≤ r.1
  b : ∀ r ∈ P, -10000000 ≤ r.2 ∧ r.2 ≤ 10000000
  a : Alt P
theorem qar (a : List Int) (x y : Int) : (a ++ [x, y]).getD (a.length + 1) 0 = y := by
  rw [List.getD_eq_getElem?_getD, List.getElem?_append_right (by omega)]; simp
theorem qaq (a : List Int) (x y : Int) : (a ++ [x, y]).getD a.length 0 = x := by
  rw [List.getD_eq_getElem?_getD, List.getElem?_append_right (by omega)]; simp
theorem qas (a : List Int) (x y z : Int) : (a ++ [x, y]).set a.length z = a ++ [z, y] := by
  rw [List.set_append_right _ _ (by omega)]; simp
theorem qep (q : Int) (hq : 1 ≤ q) : ∀ (l pre : List Int) (last : Int) (P : List Rn), (∀ x ∈ l, 0 ≤ x ∧ x ≤ 10000000) → 0 ≤ last ∧ last ≤ 10000000 → Cm q pre last P → ∃ P' last', comp q l last (flat P) = flat P' ∧ Cm q (pre ++ l) last' P'
  | [], pre, last, P, hl, hb, C => ⟨P, last, rfl, by rw [List.append_nil]; exact C⟩
  | x :: l, pre, last, P, hl, hb, C => by
    have hx := hl x List.mem_cons_self
    have qx := ql1 hx.1 hq
    have IH := fun P C => qep q hq l (pre ++ [x]) (qlz x q) P (fun y hy => hl y (List.mem_cons_of_mem _ hy)) (by omega) C
    rw [show pre ++ x :: l = pre ++ [x] ++ l by simp]
    rw [comp]
    have new : Alt (P ++ [(1, qlz x q - last)]) → Cm q (pre ++ [x]) (qlz x q) (P ++ [(1, qlz x q - last)]) := fun ha => by
      refine ⟨?_, ?_, ?_, ?_, ha⟩
      · rw [qph, C.v, C.e]; simp [vals, steps, vN]; omega
      · rw [qht, C.e]; simp [endv, vN]; omega
      · intro r hr; rcases List.mem_append.1 hr with h | h
        · exact C.p r h
        · rw [List.mem_singleton.1 h]; exact Nat.le_refl 1
      · intro r hr; rcases List.mem_append.1 hr with h | h
        · exact C.b r h
        · rw [List.mem_singleton.1 h]; simp only; omega
    rcases qno P with rfl | ⟨P0, r, rfl⟩
    · rw [if_neg (by simp [flat])]
      exact IH [(1, qlz x q - last)] (new (qam _))
    · have fl : flat (P0 ++ [r]) = flat P0 ++ [(r.1 : Int), r.2] := by rw [qhy]; rfl
      have ln : (flat P0 ++ [(r.1 : Int), r.2]).length = (flat P0).length + 2 := by simp
      rw [fl, ln, show (flat P0).length + 2 - 1 = (flat P0).length + 1 by omega, show (flat P0).length + 2 - 2 = (flat P0).length by omega, qar, qaq, qas]
      by_cases g : r.2 = qlz x q - last
      · rw [if_pos ⟨by omega, g⟩]
        have v0 := C.v; have e0 := C.e
        rw [qph] at v0
        rw [qht] at e0
        simp only [vals, endv, List.append_nil] at v0 e0
        have C' : Cm q (pre ++ [x]) (qlz x q) (P0 ++ [(r.1 + 1, r.2)]) := by
          refine ⟨?_, ?_, ?_, ?_, qak C.a rfl⟩
          · rw [qph]
            simp only [vals, List.append_nil, steps, vN]
            rw [← List.append_assoc, v0, e0, List.map_append, show last + r.2 = qlz x q by omega]; rfl
          · rw [qht]; simp only [endv, vN]; omega
          · intro s hs; rcases List.mem_append.1 hs with h | h
            · exact C.p s (List.mem_append_left _ h)
            · rw [List.mem_singleton.1 h]; simp only; omega
          · intro s hs; rcases List.mem_append.1 hs with h | h
            · exact C.b s (List.mem_append_left _ h)
            · rw [List.mem_singleton.1 h]; exact C.b r (List.mem_append_right _ (List.mem_singleton.2 rfl))
        have := IH _ C'
        rw [qhy] at this
        simpa [flat] using this
      · rw [if_neg (fun h => g h.2)]
        have := IH _ (new (qan C.a g))
        rw [qhy, fl] at this
        simpa [flat] using this
theorem qen (q : Int) (hq : 1 ≤ q) (m : List Int) (hm : ∀ x ∈ m, 0 ≤ x ∧ x ≤ 10000000) : ∃ P last, comp q m 0 [] = flat P ∧ Cm q m last P :=
  qep q hq m [] 0 [] hm (by omega) ⟨rfl, rfl, by simp, by simp, qal⟩
def decM (q : Int) (m : List Int) : List Int := m.map fun x => q * qlz x q
theorem qe2 (q : Int) (hq : 1 ≤ q) : ∀ (m : List Int), (∀ x ∈ m, 0 ≤ x) → 2 * (isum (decM q m) - isum m) ≤ (m.length : Int) * q ∧ -((m.length : Int) * q) ≤ 2 * (isum (decM q m) - isum m)
  | [], h => by simp [decM, isum]
  | x :: m, h => by
    have IH := qe2 q hq m fun y hy => h y (List.mem_cons_of_mem _ hy)
    have a := ql1 (h x List.mem_cons_self) hq
    have e : ((x :: m).length : Int) * q = (m.length : Int) * q + q := by
      rw [List.length_cons]; push_cast; rw [Int.add_mul, Int.one_mul]
    rw [e, show isum (decM q (x :: m)) = q * qlz x q + isum (decM q m) from rfl, show isum (x :: m) = x + isum m from rfl]
    omega
theorem qe1 (q : Int) (hq : 1 ≤ q ∧ q ≤ 1000000) (m : List Int) (hm : ∀ x ∈ m, 0 ≤ x ∧ x ≤ 10000000) : ∀ y ∈ decM q m, 0 ≤ y ∧ y ≤ 11000000 := by
  intro y hy
  obtain ⟨x, hx, rfl⟩ := List.mem_map.1 hy
  have a := hm x hx
  have b := ql1 a.1 hq.1
  have : 0 ≤ q * qlz x q := Int.mul_nonneg (by omega) b.1
  omega
end Go.Proofs.Ytcaapedadpnjoaa
end
section
namespace Go.Proofs.Ytcaapedadpnjoaa
open Go.Ev
theorem qhd (k : Nat) (a0 : Int) (a1z : Bool) (a1 : List (Int × Int × Int)) (a2z : Bool) (a2 : List Int) (a3z : Bool) (a3 : List Int) (a4z : Bool) (a4 : List Int) (b0 b1 b2 : Int) : go (k + 1) spec_l13Apply [(.agg [(.int .i64 (a0)), (.arr false (a1z) (.r3 (a1))), (.arr false (a2z) (.ints .i64 (a2))), (.arr false (a3z) (.ints .i64 (a3))), (.arr false (a4z) (.ints .i64 (a4)))]), (.agg [(.int .i64 (b0)), (.int .i64 (b1)), (.int .i64 (b2))])] =
 (go k spec_l07Copy [(.agg [(.int .i64 (a0)), (.arr false (a1z) (.r3 (a1))), (.arr false (a2z) (.ints .i64 (a2))), (.arr false (a3z) (.ints .i64 (a3))), (.arr false (a4z) (.ints .i64 (a4)))])]).bind fun r0 =>
 cond (decide ((0 : Int) ≤ IntKind.wrap .i64 (nI (List.length a2) - (1 : Int))) && decide (IntKind.wrap .i64 (nI (List.length a2) - (1 : Int)) < nI (List.length a2)))
 (cond (decide ((0 : Int) ≤ IntKind.wrap .i64 (nI (List.length a2) - (1 : Int))) && decide (IntKind.wrap .i64 (nI (List.length a2) - (1 : Int)) < nI (List.length a3)))
 (cond (decide ((0 : Int) ≤ IntKind.wrap .i64 (nI (List.length a2) - (1 : Int))) && decide (IntKind.wrap .i64 (nI (List.length a2) - (1 : Int)) < nI (List.length a2)))
 ((go k spec_ShareOut [(.int .i64 (List.getD a3 (Int.toNat (IntKind.wrap .i64 (nI (List.length a2) - (1 : Int)))) (0 : Int))), (.int .i64 (IntKind.wrap .i64 (Int.tdiv (IntKind.wrap .i64 (List.getD a2 (Int.toNat (IntKind.wrap .i64 (nI (List.length a2) - (1 : Int)))) (0 : Int) * b2)) (1000 : Int)))), (.int .i64 (List.getD a2 (Int.toNat (IntKind.wrap .i64 (nI (List.length a2) - (1 : Int)))) (0 : Int)))]).bind fun r1 =>
 cond (decide ((0 : Int) ≤ IntKind.wrap .i64 (nI (List.length a2) - (1 : Int))) && decide (IntKind.wrap .i64 (nI (List.length a2) - (1 : Int)) < nI (List.length (D.ints (D.cell 2 (nth r0 0))))))
 (cond (decide ((0 : Int) ≤ IntKind.wrap .i64 (nI (List.length a2) - (1 : Int))) && decide (IntKind.wrap .i64 (nI (List.length a2) - (1 : Int)) < nI (List.length (D.ints (D.cell 2 (nth r0 0))))))
 (cond (decide ((0 : Int) ≤ IntKind.wrap .i64 (nI (List.length a2) - (1 : Int))) && decide (IntKind.wrap .i64 (nI (List.length a2) - (1 : Int)) < nI (List.length (D.ints (D.cell 3 (nth r0 0))))))
 (cond (decide ((0 : Int) ≤ IntKind.wrap .i64 (nI (List.length a2) - (1 : Int))) && decide (IntKind.wrap .i64 (nI (List.length a2) - (1 : Int)) < nI (List.length (D.ints (D.cell 3 (nth r0 0))))))
 ((go k spec_l07Sum [(.arr false (D.nil (D.cell 2 (nth r0 0))) (.ints .i64 (List.set (D.ints (D.cell 2 (nth r0 0))) (Int.toNat (IntKind.wrap .i64 (nI (List.length a2) - (1 : Int)))) (IntKind.wrap .i64 (List.getD (D.ints (D.cell 2 (nth r0 0))) (Int.toNat (IntKind.wrap .i64 (nI (List.length a2) - (1 : Int)))) (0 : Int) - IntKind.wrap .i64 (Int.tdiv (IntKind.wrap .i64 (List.getD a2 (Int.toNat (IntKind.wrap .i64 (nI (List.length a2) - (1 : Int)))) (0 : Int) * b2)) (1000 : Int)))))))]).bind fun r2 =>
 cond (decide (IntKind.wrap .i64 (D.toInt (nth r2 0) + b0) ≤ (10000000 : Int)))
 (cond (decide ((0 : Int) ≤ (0 : Int)) && decide ((0 : Int) < nI (List.length (List.set (D.ints (D.cell 2 (nth r0 0))) (Int.toNat (IntKind.wrap .i64 (nI (List.length a2) - (1 : Int)))) (IntKind.wrap .i64 (List.getD (D.ints (D.cell 2 (nth r0 0))) (Int.toNat (IntKind.wrap .i64 (nI (List.length a2) - (1 : Int)))) (0 : Int) - IntKind.wrap .i64 (Int.tdiv (IntKind.wrap .i64 (List.getD a2 (Int.toNat (IntKind.wrap .i64 (nI (List.length a2) - (1 : Int)))) (0 : Int) * b2)) (1000 : Int))))))))
 (cond (decide ((0 : Int) ≤ (0 : Int)) && decide ((0 : Int) < nI (List.length (List.set (D.ints (D.cell 2 (nth r0 0))) (Int.toNat (IntKind.wrap .i64 (nI (List.length a2) - (1 : Int)))) (IntKind.wrap .i64 (List.getD (D.ints (D.cell 2 (nth r0 0))) (Int.toNat (IntKind.wrap .i64 (nI (List.length a2) - (1 : Int)))) (0 : Int) - IntKind.wrap .i64 (Int.tdiv (IntKind.wrap .i64 (List.getD a2 (Int.toNat (IntKind.wrap .i64 (nI (List.length a2) - (1 : Int)))) (0 : Int) * b2)) (1000 : Int))))))))
 (cond (decide ((0 : Int) ≤ (0 : Int)) && decide ((0 : Int) < nI (List.length (List.set (D.ints (D.cell 3 (nth r0 0))) (Int.toNat (IntKind.wrap .i64 (nI (List.length a2) - (1 : Int)))) (IntKind.wrap .i64 (List.getD (D.ints (D.cell 3 (nth r0 0))) (Int.toNat (IntKind.wrap .i64 (nI (List.length a2) - (1 : Int)))) (0 : Int) - D.toInt (nth r1 0)))))))
 (cond (decide ((0 : Int) ≤ (0 : Int)) && decide ((0 : Int) < nI (List.length (List.set (D.ints (D.cell 3 (nth r0 0))) (Int.toNat (IntKind.wrap .i64 (nI (List.length a2) - (1 : Int)))) (IntKind.wrap .i64 (List.getD (D.ints (D.cell 3 (nth r0 0))) (Int.toNat (IntKind.wrap .i64 (nI (List.length a2) - (1 : Int)))) (0 : Int) - D.toInt (nth r1 0)))))))
 (some [(.agg [(.int .i64 (D.toInt (D.cell 0 (nth r0 0)))), (.arr true (D.nil (D.cell 1 (nth r0 0))) (.r3 (D.r3 (D.cell 1 (nth r0 0))))), (.arr true (D.nil (D.cell 2 (nth r0 0))) (.ints .i64 (List.set (List.set (D.ints (D.cell 2 (nth r0 0))) (Int.toNat (IntKind.wrap .i64 (nI (List.length a2) - (1 : Int)))) (IntKind.wrap .i64 (List.getD (D.ints (D.cell 2 (nth r0 0))) (Int.toNat (IntKind.wrap .i64 (nI (List.length a2) - (1 : Int)))) (0 : Int) - IntKind.wrap .i64 (Int.tdiv (IntKind.wrap .i64 (List.getD a2 (Int.toNat (IntKind.wrap .i64 (nI (List.length a2) - (1 : Int)))) (0 : Int) * b2)) (1000 : Int))))) (Int.toNat (0 : Int)) (IntKind.wrap .i64 (List.getD (List.set (D.ints (D.cell 2 (nth r0 0))) (Int.toNat (IntKind.wrap .i64 (nI (List.length a2) - (1 : Int)))) (IntKind.wrap .i64 (List.getD (D.ints (D.cell 2 (nth r0 0))) (Int.toNat (IntKind.wrap .i64 (nI (List.length a2) - (1 : Int)))) (0 : Int) - IntKind.wrap .i64 (Int.tdiv (IntKind.wrap .i64 (List.getD a2 (Int.toNat (IntKind.wrap .i64 (nI (List.length a2) - (1 : Int)))) (0 : Int) * b2)) (1000 : Int))))) (Int.toNat (0 : Int)) (0 : Int) + b0))))), (.arr true (D.nil (D.cell 3 (nth r0 0))) (.ints .i64 (List.set (List.set (D.ints (D.cell 3 (nth r0 0))) (Int.toNat (IntKind.wrap .i64 (nI (List.length a2) - (1 : Int)))) (IntKind.wrap .i64 (List.getD (D.ints (D.cell 3 (nth r0 0))) (Int.toNat (IntKind.wrap .i64 (nI (List.length a2) - (1 : Int)))) (0 : Int) - D.toInt (nth r1 0)))) (Int.toNat (0 : Int)) (IntKind.wrap .i64 (List.getD (List.set (D.ints (D.cell 3 (nth r0 0))) (Int.toNat (IntKind.wrap .i64 (nI (List.length a2) - (1 : Int)))) (IntKind.wrap .i64 (List.getD (D.ints (D.cell 3 (nth r0 0))) (Int.toNat (IntKind.wrap .i64 (nI (List.length a2) - (1 : Int)))) (0 : Int) - D.toInt (nth r1 0)))) (Int.toNat (0 : Int)) (0 : Int) + IntKind.wrap .i64 (b0 * b1)))))), (.arr true (D.nil (D.cell 4 (nth r0 0))) (.ints .i64 (D.ints (D.cell 4 (nth r0 0)))))]), (.agg [(.int .i64 (b0)), (.int .i64 (IntKind.wrap .i64 (Int.tdiv (IntKind.wrap .i64 (List.getD a2 (Int.toNat (IntKind.wrap .i64 (nI (List.length a2) - (1 : Int)))) (0 : Int) * b2)) (1000 : Int)))), (.int .i64 (IntKind.wrap .i64 (b0 * b1))), (.int .i64 (D.toInt (nth r1 0)))])])
 (none))
 (none))
 (none))
 (none))
 (some [(.agg [(.int .i64 (D.toInt (D.cell 0 (nth r0 0)))), (.arr true (D.nil (D.cell 1 (nth r0 0))) (.r3 (D.r3 (D.cell 1 (nth r0 0))))), (.arr true (D.nil (D.cell 2 (nth r0 0))) (.ints .i64 (List.set (D.ints (D.cell 2 (nth r0 0))) (Int.toNat (IntKind.wrap .i64 (nI (List.length a2) - (1 : Int)))) (IntKind.wrap .i64 (List.getD (D.ints (D.cell 2 (nth r0 0))) (Int.toNat (IntKind.wrap .i64 (nI (List.length a2) - (1 : Int)))) (0 : Int) - IntKind.wrap .i64 (Int.tdiv (IntKind.wrap .i64 (List.getD a2 (Int.toNat (IntKind.wrap .i64 (nI (List.length a2) - (1 : Int)))) (0 : Int) * b2)) (1000 : Int))))))), (.arr true (D.nil (D.cell 3 (nth r0 0))) (.ints .i64 (List.set (D.ints (D.cell 3 (nth r0 0))) (Int.toNat (IntKind.wrap .i64 (nI (List.length a2) - (1 : Int)))) (IntKind.wrap .i64 (List.getD (D.ints (D.cell 3 (nth r0 0))) (Int.toNat (IntKind.wrap .i64 (nI (List.length a2) - (1 : Int)))) (0 : Int) - D.toInt (nth r1 0)))))), (.arr true (D.nil (D.cell 4 (nth r0 0))) (.ints .i64 (D.ints (D.cell 4 (nth r0 0)))))]), (.agg [(.int .i64 (0 : Int)), (.int .i64 (IntKind.wrap .i64 (Int.tdiv (IntKind.wrap .i64 (List.getD a2 (Int.toNat (IntKind.wrap .i64 (nI (List.length a2) - (1 : Int)))) (0 : Int) * b2)) (1000 : Int)))), (.int .i64 (0 : Int)), (.int .i64 (D.toInt (nth r1 0)))])]))
 (none))
 (none))
 (none))
 (none))
 (none))
 (none))
 (none) := by kernel_rfl
theorem qhf (k : Nat) (a b : Int) : go (k + 1) spec_l14Part [(.int .i64 (a)), (.int .i64 (b))] =
 (go k spec_WidthOf [(.int .i64 (b))]).bind fun r0 =>
 some [(.int .i64 (IntKind.wrap .i64 (Int.tdiv (IntKind.wrap .i64 (a * D.toInt (nth r0 0))) (16 : Int))))] := by kernel_rfl
def qm6 (x0 x1 x2 : Int) (z3 : Bool) (l4 : List (Int × Int × Int)) (z5 : Bool) (l6 : List Int) (z7 : Bool) (l8 : List Int) (z9 : Bool) (l10 : List Int) (x11 : Int) (z12 : Bool) (l13 : List (Int × Int × Int)) (z14 : Bool) (l15 : List Int) (z16 : Bool) (l17 : List Int) (z18 : Bool) (l19 : List Int) (x20 x21 x22 x23 x24 : Int) (z25 : Bool) (l26 : List (Int × Int × Int)) (z27 : Bool) (l28 : List Int) (z29 : Bool) (l30 : List Int) (z31 : Bool) (l32 : List Int) (x33 : Int) : St := ⟨fill 52 [(1, (.int .i64 (x0))), (2, (.ptr 4 (0) (0))), (4, (.ptr 9 (0) (0))), (5, (.ptr 10 (0) (0))), (6, (.ptr 15 (0) (0))), (7, (.int .i64 (x1))), (8, (.int .i64 (x2)))], [], [(.arr false (z3) (.r3 (l4))), (.arr false (z5) (.ints .i64 (l6))), (.arr false (z7) (.ints .i64 (l8))), (.arr false (z9) (.ints .i64 (l10))), (.box true [(.int .i64 (x11)), (.sl 0 none), (.sl 1 none), (.sl 2 none), (.sl 3 none)]), (.arr true (z12) (.r3 (l13))), (.arr true (z14) (.ints .i64 (l15))), (.arr true (z16) (.ints .i64 (l17))), (.arr true (z18) (.ints .i64 (l19))), (.box true [(.int .i64 (x20)), (.sl 5 none), (.sl 6 none), (.sl 7 none), (.sl 8 none)]), (.box true [(.int .i64 (x21)), (.int .i64 (x22)), (.int .i64 (x23)), (.int .i64 (x24))]), (.arr true (z25) (.r3 (l26))), (.arr true (z27) (.ints .i64 (l28))), (.arr true (z29) (.ints .i64 (l30))), (.arr true (z31) (.ints .i64 (l32))), (.box true [(.int .i64 (x33)), (.sl 11 none), (.sl 12 none), (.sl 13 none), (.sl 14 none)])]⟩
theorem qhg (k : Nat) (a0 : Int) (a1z : Bool) (a1 : List (Int × Int × Int)) (a2z : Bool) (a2 : List Int) (a3z : Bool) (a3 : List Int) (a4z : Bool) (a4 : List Int) (b : Int) : go (k + 1) spec_l14Rain [(.agg [(.int .i64 (a0)), (.arr false (a1z) (.r3 (a1))), (.arr false (a2z) (.ints .i64 (a2))), (.arr false (a3z) (.ints .i64 (a3))), (.arr false (a4z) (.ints .i64 (a4)))]), (.int .i64 (b))] =
 (go k spec_l07Copy [(.agg [(.int .i64 (a0)), (.arr false (a1z) (.r3 (a1))), (.arr false (a2z) (.ints .i64 (a2))), (.arr false (a3z) (.ints .i64 (a3))), (.arr false (a4z) (.ints .i64 (a4)))])]).bind fun r0 =>
 lp k spec_l14Rain [] [] 4 k (qm6 b (0 : Int) (0 : Int) a1z a1 a2z a2 a3z a3 a4z a4 a0 true ([]) true ([]) true ([]) true ([]) (0 : Int) (0 : Int) (0 : Int) (0 : Int) (0 : Int) (D.nil (D.cell 1 (nth r0 0))) (D.r3 (D.cell 1 (nth r0 0))) (D.nil (D.cell 2 (nth r0 0))) (D.ints (D.cell 2 (nth r0 0))) (D.nil (D.cell 3 (nth r0 0))) (D.ints (D.cell 3 (nth r0 0))) (D.nil (D.cell 4 (nth r0 0))) (D.ints (D.cell 4 (nth r0 0))) (D.toInt (D.cell 0 (nth r0 0)))) := by kernel_rfl
theorem qjc (k n : Nat) (fu : List (Nat × Nat)) (x0 x1 x2 : Int) (z3 : Bool) (l4 : List (Int × Int × Int)) (z5 : Bool) (l6 : List Int) (z7 : Bool) (l8 : List Int) (z9 : Bool) (l10 : List Int) (x11 : Int) (z12 : Bool) (l13 : List (Int × Int × Int)) (z14 : Bool) (l15 : List Int) (z16 : Bool) (l17 : List Int) (z18 : Bool) (l19 : List Int) (x20 x21 x22 x23 x24 : Int) (z25 : Bool) (l26 : List (Int × Int × Int)) (z27 : Bool) (l28 : List Int) (z29 : Bool) (l30 : List Int) (z31 : Bool) (l32 : List Int) (x33 : Int) : lp k spec_l14Rain [] fu 4 (n + 1) (qm6 x0 x1 x2 z3 l4 z5 l6 z7 l8 z9 l10 x11 z12 l13 z14 l15 z16 l17 z18 l19 x20 x21 x22 x23 x24 z25 l26 z27 l28 z29 l30 z31 l32 x33) =
 cond (decide (x2 < nI (List.length l6)))
 (cond (decide ((0 : Int) ≤ x2) && decide (x2 < nI (List.length l4)))
 ((go k spec_l14Part [(.int .i64 (x0)), (.int .i64 (Prod.fst (Prod.snd (List.getD l4 (Int.toNat x2) zz3))))]).bind fun r0 =>
 cond (decide ((0 : Int) ≤ x2) && decide (x2 < nI (List.length l28)))
 (cond (decide ((0 : Int) ≤ x2) && decide (x2 < nI (List.length l28)))
 (lp k spec_l14Rain [] fu 4 n (qm6 x0 (IntKind.wrap .i64 (x1 + D.toInt (nth r0 0))) (IntKind.wrap .i64 (x2 + (1 : Int))) z3 l4 z5 l6 z7 l8 z9 l10 x11 z12 l13 z14 l15 z16 l17 z18 l19 x20 x21 x22 x23 x24 z25 l26 z27 (List.set l28 (Int.toNat x2) (IntKind.wrap .i64 (List.getD l28 (Int.toNat x2) (0 : Int) + D.toInt (nth r0 0)))) z29 l30 z31 l32 x33))
 (none))
 (none))
 (none))
 ((go k spec_l07Sum [(.arr false (z27) (.ints .i64 (l28)))]).bind fun r1 =>
 cond (decide ((10000000 : Int) < D.toInt (nth r1 0)))
 ((go k spec_l07Copy [(.agg [(.int .i64 (x11)), (.arr false (z3) (.r3 (l4))), (.arr false (z5) (.ints .i64 (l6))), (.arr false (z7) (.ints .i64 (l8))), (.arr false (z9) (.ints .i64 (l10)))])]).bind fun r2 =>
 some [(.agg [(.int .i64 (D.toInt (D.cell 0 (nth r2 0)))), (.arr true (D.nil (D.cell 1 (nth r2 0))) (.r3 (D.r3 (D.cell 1 (nth r2 0))))), (.arr true (D.nil (D.cell 2 (nth r2 0))) (.ints .i64 (D.ints (D.cell 2 (nth r2 0))))), (.arr true (D.nil (D.cell 3 (nth r2 0))) (.ints .i64 (D.ints (D.cell 3 (nth r2 0))))), (.arr true (D.nil (D.cell 4 (nth r2 0))) (.ints .i64 (D.ints (D.cell 4 (nth r2 0)))))]), (.agg [(.int .i64 (0 : Int)), (.int .i64 (0 : Int)), (.int .i64 (0 : Int)), (.int .i64 (0 : Int))])])
 (some [(.agg [(.int .i64 (x33)), (.arr true (z25) (.r3 (l26))), (.arr true (z27) (.ints .i64 (l28))), (.arr true (z29) (.ints .i64 (l30))), (.arr true (z31) (.ints .i64 (l32)))]), (.agg [(.int .i64 (x1)), (.int .i64 (0 : Int)), (.int .i64 (0 : Int)), (.int .i64 (0 : Int))])])) := by kernel_rfl
def qm7 (x0 x1 : Int) (z2 : Bool) (l3 : List (Int × Int × Int)) (z4 : Bool) (l5 : List Int) (z6 : Bool) (l7 : List Int) (z8 : Bool) (l9 : List Int) (x10 : Int) (z11 : Bool) (l12 : List (Int × Int × Int)) (z13 : Bool) (l14 : List Int) (z15 : Bool) (l16 : List Int) (z17 : Bool) (l18 : List Int) (x19 x20 x21 x22 x23 : Int) (z24 : Bool) (l25 : List (Int × Int × Int)) (z26 : Bool) (l27 : List Int) (z28 : Bool) (l29 : List Int) (z30 : Bool) (l31 : List Int) (x32 x33 x34 x35 x36 : Int) : St := ⟨fill 82 [(1, (.int .i64 (x0))), (2, (.ptr 4 (0) (0))), (4, (.ptr 9 (0) (0))), (5, (.ptr 10 (0) (0))), (6, (.ptr 15 (0) (0))), (7, (.ptr 16 (0) (0))), (8, (.int .i64 (x1)))], [], [(.arr false (z2) (.r3 (l3))), (.arr false (z4) (.ints .i64 (l5))), (.arr false (z6) (.ints .i64 (l7))), (.arr false (z8) (.ints .i64 (l9))), (.box true [(.int .i64 (x10)), (.sl 0 none), (.sl 1 none), (.sl 2 none), (.sl 3 none)]), (.arr true (z11) (.r3 (l12))), (.arr true (z13) (.ints .i64 (l14))), (.arr true (z15) (.ints .i64 (l16))), (.arr true (z17) (.ints .i64 (l18))), (.box true [(.int .i64 (x19)), (.sl 5 none), (.sl 6 none), (.sl 7 none), (.sl 8 none)]), (.box true [(.int .i64 (x20)), (.int .i64 (x21)), (.int .i64 (x22)), (.int .i64 (x23))]), (.arr true (z24) (.r3 (l25))), (.arr true (z26) (.ints .i64 (l27))), (.arr true (z28) (.ints .i64 (l29))), (.arr true (z30) (.ints .i64 (l31))), (.box true [(.int .i64 (x32)), (.sl 11 none), (.sl 12 none), (.sl 13 none), (.sl 14 none)]), (.box true [(.int .i64 (x33)), (.int .i64 (x34)), (.int .i64 (x35)), (.int .i64 (x36))])]⟩
theorem qhh (k : Nat) (a0 : Int) (a1z : Bool) (a1 : List (Int × Int × Int)) (a2z : Bool) (a2 : List Int) (a3z : Bool) (a3 : List Int) (a4z : Bool) (a4 : List Int) (b : Int) : go (k + 1) spec_l14Soak [(.agg [(.int .i64 (a0)), (.arr false (a1z) (.r3 (a1))), (.arr false (a2z) (.ints .i64 (a2))), (.arr false (a3z) (.ints .i64 (a3))), (.arr false (a4z) (.ints .i64 (a4)))]), (.int .i64 (b))] =
 (go k spec_l07Copy [(.agg [(.int .i64 (a0)), (.arr false (a1z) (.r3 (a1))), (.arr false (a2z) (.ints .i64 (a2))), (.arr false (a3z) (.ints .i64 (a3))), (.arr false (a4z) (.ints .i64 (a4)))])]).bind fun r0 =>
 lp k spec_l14Soak [] [] 4 k (qm7 b (0 : Int) a1z a1 a2z a2 a3z a3 a4z a4 a0 true ([]) true ([]) true ([]) true ([]) (0 : Int) (0 : Int) (0 : Int) (0 : Int) (0 : Int) (D.nil (D.cell 1 (nth r0 0))) (D.r3 (D.cell 1 (nth r0 0))) (D.nil (D.cell 2 (nth r0 0))) (D.ints (D.cell 2 (nth r0 0))) (D.nil (D.cell 3 (nth r0 0))) (D.ints (D.cell 3 (nth r0 0))) (D.nil (D.cell 4 (nth r0 0))) (D.ints (D.cell 4 (nth r0 0))) (D.toInt (D.cell 0 (nth r0 0))) (0 : Int) (0 : Int) (0 : Int) (0 : Int)) := by kernel_rfl
theorem qjd (k n : Nat) (fu : List (Nat × Nat)) (x0 x1 : Int) (z2 : Bool) (l3 : List (Int × Int × Int)) (z4 : Bool) (l5 : List Int) (z6 : Bool) (l7 : List Int) (z8 : Bool) (l9 : List Int) (x10 : Int) (z11 : Bool) (l12 : List (Int × Int × Int)) (z13 : Bool) (l14 : List Int) (z15 : Bool) (l16 : List Int) (z17 : Bool) (l18 : List Int) (x19 x20 x21 x22 x23 : Int) (z24 : Bool) (l25 : List (Int × Int × Int)) (z26 : Bool) (l27 : List Int) (z28 : Bool) (l29 : List Int) (z30 : Bool) (l31 : List Int) (x32 x33 x34 x35 x36 : Int) : lp k spec_l14Soak [] fu 4 (n + 1) (qm7 x0 x1 z2 l3 z4 l5 z6 l7 z8 l9 x10 z11 l12 z13 l14 z15 l16 z17 l18 x19 x20 x21 x22 x23 z24 l25 z26 l27 z28 l29 z30 l31 x32 x33 x34 x35 x36) =
 cond (decide (x1 < nI (List.length l5)))
 (cond (decide ((0 : Int) ≤ x1) && decide (x1 < nI (List.length l3)))
 ((go k spec_l14Part [(.int .i64 (x0)), (.int .i64 (Prod.fst (Prod.snd (List.getD l3 (Int.toNat x1) zz3))))]).bind fun r0 =>
 cond (decide ((0 : Int) ≤ x1) && decide (x1 < nI (List.length l5)))
 (cond (decide ((0 : Int) ≤ x1) && decide (x1 < nI (List.length l7)))
 (cond (decide ((0 : Int) ≤ x1) && decide (x1 < nI (List.length l5)))
 ((go k spec_ShareOut [(.int .i64 (List.getD l7 (Int.toNat x1) (0 : Int))), (.int .i64 (if List.getD l5 (Int.toNat x1) (0 : Int) < D.toInt (nth r0 0) then List.getD l5 (Int.toNat x1) (0 : Int) else D.toInt (nth r0 0))), (.int .i64 (List.getD l5 (Int.toNat x1) (0 : Int)))]).bind fun r1 =>
 cond (decide ((0 : Int) ≤ x1) && decide (x1 < nI (List.length l27)))
 (cond (decide ((0 : Int) ≤ x1) && decide (x1 < nI (List.length l27)))
 (cond (decide ((0 : Int) ≤ x1) && decide (x1 < nI (List.length l29)))
 (cond (decide ((0 : Int) ≤ x1) && decide (x1 < nI (List.length l29)))
 (lp k spec_l14Soak [] fu 4 n (qm7 x0 (IntKind.wrap .i64 (x1 + (1 : Int))) z2 l3 z4 l5 z6 l7 z8 l9 x10 z11 l12 z13 l14 z15 l16 z17 l18 x19 x20 x21 x22 x23 z24 l25 z26 (List.set l27 (Int.toNat x1) (IntKind.wrap .i64 (List.getD l27 (Int.toNat x1) (0 : Int) - if List.getD l5 (Int.toNat x1) (0 : Int) < D.toInt (nth r0 0) then List.getD l5 (Int.toNat x1) (0 : Int) else D.toInt (nth r0 0)))) z28 (List.set l29 (Int.toNat x1) (IntKind.wrap .i64 (List.getD l29 (Int.toNat x1) (0 : Int) - D.toInt (nth r1 0)))) z30 l31 x32 x33 (IntKind.wrap .i64 (x34 + if List.getD l5 (Int.toNat x1) (0 : Int) < D.toInt (nth r0 0) then List.getD l5 (Int.toNat x1) (0 : Int) else D.toInt (nth r0 0))) x35 (IntKind.wrap .i64 (x36 + D.toInt (nth r1 0)))))
 (none))
 (none))
 (none))
 (none))
 (none))
 (none))
 (none))
 (none))
 (some [(.agg [(.int .i64 (x32)), (.arr true (z24) (.r3 (l25))), (.arr true (z26) (.ints .i64 (l27))), (.arr true (z28) (.ints .i64 (l29))), (.arr true (z30) (.ints .i64 (l31)))]), (.agg [(.int .i64 (x33)), (.int .i64 (x34)), (.int .i64 (x35)), (.int .i64 (x36))])]) := by kernel_rfl
def qm8 (x0 x1 : Int) (z2 : Bool) (l3 : List (Int × Int × Int)) (z4 : Bool) (l5 : List Int) (z6 : Bool) (l7 : List Int) (z8 : Bool) (l9 : List Int) (x10 : Int) (z11 : Bool) (l12 : List (Int × Int × Int)) (z13 : Bool) (l14 : List Int) (z15 : Bool) (l16 : List Int) (z17 : Bool) (l18 : List Int) (x19 x20 x21 x22 x23 : Int) (z24 : Bool) (l25 : List (Int × Int × Int)) (z26 : Bool) (l27 : List Int) (z28 : Bool) (l29 : List Int) (z30 : Bool) (l31 : List Int) (x32 x33 x34 x35 x36 : Int) : St := ⟨fill 46 [(1, (.int .i64 (x0))), (2, (.ptr 4 (0) (0))), (4, (.ptr 9 (0) (0))), (5, (.ptr 10 (0) (0))), (6, (.ptr 15 (0) (0))), (7, (.ptr 16 (0) (0))), (8, (.int .i64 (x1)))], [], [(.arr false (z2) (.r3 (l3))), (.arr false (z4) (.ints .i64 (l5))), (.arr false (z6) (.ints .i64 (l7))), (.arr false (z8) (.ints .i64 (l9))), (.box true [(.int .i64 (x10)), (.sl 0 none), (.sl 1 none), (.sl 2 none), (.sl 3 none)]), (.arr true (z11) (.r3 (l12))), (.arr true (z13) (.ints .i64 (l14))), (.arr true (z15) (.ints .i64 (l16))), (.arr true (z17) (.ints .i64 (l18))), (.box true [(.int .i64 (x19)), (.sl 5 none), (.sl 6 none), (.sl 7 none), (.sl 8 none)]), (.box true [(.int .i64 (x20)), (.int .i64 (x21)), (.int .i64 (x22)), (.int .i64 (x23))]), (.arr true (z24) (.r3 (l25))), (.arr true (z26) (.ints .i64 (l27))), (.arr true (z28) (.ints .i64 (l29))), (.arr true (z30) (.ints .i64 (l31))), (.box true [(.int .i64 (x32)), (.sl 11 none), (.sl 12 none), (.sl 13 none), (.sl 14 none)]), (.box true [(.int .i64 (x33)), (.int .i64 (x34)), (.int .i64 (x35)), (.int .i64 (x36))])]⟩
theorem qhi (k : Nat) (a0 : Int) (a1z : Bool) (a1 : List (Int × Int × Int)) (a2z : Bool) (a2 : List Int) (a3z : Bool) (a3 : List Int) (a4z : Bool) (a4 : List Int) (b : Int) : go (k + 1) spec_l15Decay [(.agg [(.int .i64 (a0)), (.arr false (a1z) (.r3 (a1))), (.arr false (a2z) (.ints .i64 (a2))), (.arr false (a3z) (.ints .i64 (a3))), (.arr false (a4z) (.ints .i64 (a4)))]), (.int .i64 (b))] =
 (go k spec_l07Copy [(.agg [(.int .i64 (a0)), (.arr false (a1z) (.r3 (a1))), (.arr false (a2z) (.ints .i64 (a2))), (.arr false (a3z) (.ints .i64 (a3))), (.arr false (a4z) (.ints .i64 (a4)))])]).bind fun r0 =>
 lp k spec_l15Decay [] [] 4 k (qm8 b (0 : Int) a1z a1 a2z a2 a3z a3 a4z a4 a0 true ([]) true ([]) true ([]) true ([]) (0 : Int) (0 : Int) (0 : Int) (0 : Int) (0 : Int) (D.nil (D.cell 1 (nth r0 0))) (D.r3 (D.cell 1 (nth r0 0))) (D.nil (D.cell 2 (nth r0 0))) (D.ints (D.cell 2 (nth r0 0))) (D.nil (D.cell 3 (nth r0 0))) (D.ints (D.cell 3 (nth r0 0))) (D.nil (D.cell 4 (nth r0 0))) (D.ints (D.cell 4 (nth r0 0))) (D.toInt (D.cell 0 (nth r0 0))) (0 : Int) (0 : Int) (0 : Int) (0 : Int)) := by kernel_rfl
theorem qje (k n : Nat) (fu : List (Nat × Nat)) (x0 x1 : Int) (z2 : Bool) (l3 : List (Int × Int × Int)) (z4 : Bool) (l5 : List Int) (z6 : Bool) (l7 : List Int) (z8 : Bool) (l9 : List Int) (x10 : Int) (z11 : Bool) (l12 : List (Int × Int × Int)) (z13 : Bool) (l14 : List Int) (z15 : Bool) (l16 : List Int) (z17 : Bool) (l18 : List Int) (x19 x20 x21 x22 x23 : Int) (z24 : Bool) (l25 : List (Int × Int × Int)) (z26 : Bool) (l27 : List Int) (z28 : Bool) (l29 : List Int) (z30 : Bool) (l31 : List Int) (x32 x33 x34 x35 x36 : Int) : lp k spec_l15Decay [] fu 4 (n + 1) (qm8 x0 x1 z2 l3 z4 l5 z6 l7 z8 l9 x10 z11 l12 z13 l14 z15 l16 z17 l18 x19 x20 x21 x22 x23 z24 l25 z26 l27 z28 l29 z30 l31 x32 x33 x34 x35 x36) =
 cond (decide (x1 < nI (List.length l7)))
 (cond (decide ((0 : Int) ≤ x1) && decide (x1 < nI (List.length l7)))
 (cond (decide ((0 : Int) ≤ x1) && decide (x1 < nI (List.length l29)))
 (cond (decide ((0 : Int) ≤ x1) && decide (x1 < nI (List.length l29)))
 (lp k spec_l15Decay [] fu 4 n (qm8 x0 (IntKind.wrap .i64 (x1 + (1 : Int))) z2 l3 z4 l5 z6 l7 z8 l9 x10 z11 l12 z13 l14 z15 l16 z17 l18 x19 x20 x21 x22 x23 z24 l25 z26 l27 z28 (List.set l29 (Int.toNat x1) (IntKind.wrap .i64 (List.getD l29 (Int.toNat x1) (0 : Int) - IntKind.wrap .i64 (Int.tdiv (IntKind.wrap .i64 (List.getD l7 (Int.toNat x1) (0 : Int) * x0)) (1000 : Int))))) z30 l31 x32 x33 x34 x35 (IntKind.wrap .i64 (x36 + IntKind.wrap .i64 (Int.tdiv (IntKind.wrap .i64 (List.getD l7 (Int.toNat x1) (0 : Int) * x0)) (1000 : Int))))))
 (none))
 (none))
 (none))
 (some [(.agg [(.int .i64 (x32)), (.arr true (z24) (.r3 (l25))), (.arr true (z26) (.ints .i64 (l27))), (.arr true (z28) (.ints .i64 (l29))), (.arr true (z30) (.ints .i64 (l31)))]), (.agg [(.int .i64 (x33)), (.int .i64 (x34)), (.int .i64 (x35)), (.int .i64 (x36))])]) := by kernel_rfl
def qnc (x0 x1 x2 x3 x4 x5 x6 x7 x8 x9 x10 : Int) (z11 : Bool) (l12 : List (Int × Int × Int)) (z13 : Bool) (l14 : List Int) (z15 : Bool) (l16 : List Int) (z17 : Bool) (l18 : List Int) (x19 x20 x21 x22 x23 : Int) (z24 : Bool) (l25 : List (Int × Int × Int)) (z26 : Bool) (l27 : List Int) (z28 : Bool) (l29 : List Int) (z30 : Bool) (l31 : List Int) (x32 x33 x34 x35 x36 : Int) : St := ⟨fill 79 [(2, (.int .i64 (x0))), (4, (.ptr 0 (0) (0))), (6, (.ptr 5 (0) (0))), (7, (.ptr 6 (0) (0))), (8, (.ptr 11 (0) (0))), (9, (.ptr 12 (0) (0))), (16, (.int .i64 (x1)))], [], [(.box true [(.int .i64 (x2)), (.int .i64 (x3)), (.int .i64 (x4)), (.int .i64 (x5)), (.int .i64 (x6)), (.int .i64 (x7)), (.int .i64 (x8)), (.int .i64 (x9)), (.int .i64 (x10))]), (.arr true (z11) (.r3 (l12))), (.arr true (z13) (.ints .i64 (l14))), (.arr true (z15) (.ints .i64 (l16))), (.arr true (z17) (.ints .i64 (l18))), (.box true [(.int .i64 (x19)), (.sl 1 none), (.sl 2 none), (.sl 3 none), (.sl 4 none)]), (.box true [(.int .i64 (x20)), (.int .i64 (x21)), (.int .i64 (x22)), (.int .i64 (x23))]), (.arr true (z24) (.r3 (l25))), (.arr true (z26) (.ints .i64 (l27))), (.arr true (z28) (.ints .i64 (l29))), (.arr true (z30) (.ints .i64 (l31))), (.box true [(.int .i64 (x32)), (.sl 7 none), (.sl 8 none), (.sl 9 none), (.sl 10 none)]), (.box true [(.int .i64 (x33)), (.int .i64 (x34)), (.int .i64 (x35)), (.int .i64 (x36))])]⟩
theorem qhm (k : Nat) (a0 : Int) (a1z : Bool) (a1 : List (Int × Int × Int)) (a2z : Bool) (a2 : List Int) (a3z : Bool) (a3 : List Int) (a4z : Bool) (a4 : List Int) (b0 b1 b2 b3 b4 b5 b6 b7 b8 c : Int) : go (k + 1) spec_l18Macro [(.agg [(.int .i64 (a0)), (.arr false (a1z) (.r3 (a1))), (.arr false (a2z) (.ints .i64 (a2))), (.arr false (a3z) (.ints .i64 (a3))), (.arr false (a4z) (.ints .i64 (a4)))]), (.agg [(.int .i64 (b0)), (.int .i64 (b1)), (.int .i64 (b2)), (.int .i64 (b3)), (.int .i64 (b4)), (.int .i64 (b5)), (.int .i64 (b6)), (.int .i64 (b7)), (.int .i64 (b8))]), (.int .i64 (c))] =
 (go k spec_l13Apply [(.agg [(.int .i64 (a0)), (.arr false (a1z) (.r3 (a1))), (.arr false (a2z) (.ints .i64 (a2))), (.arr false (a3z) (.ints .i64 (a3))), (.arr false (a4z) (.ints .i64 (a4)))]), (.agg [(.int .i64 (b0)), (.int .i64 (b1)), (.int .i64 (b2))])]).bind fun r0 =>
 (go k spec_l14Rain [(.agg [(.int .i64 (D.toInt (D.cell 0 (nth r0 0)))), (.arr false (D.nil (D.cell 1 (nth r0 0))) (.r3 (D.r3 (D.cell 1 (nth r0 0))))), (.arr false (D.nil (D.cell 2 (nth r0 0))) (.ints .i64 (D.ints (D.cell 2 (nth r0 0))))), (.arr false (D.nil (D.cell 3 (nth r0 0))) (.ints .i64 (D.ints (D.cell 3 (nth r0 0))))), (.arr false (D.nil (D.cell 4 (nth r0 0))) (.ints .i64 (D.ints (D.cell 4 (nth r0 0)))))]), (.int .i64 (b3))]).bind fun r1 =>
 (go k spec_l14Soak [(.agg [(.int .i64 (D.toInt (D.cell 0 (nth r1 0)))), (.arr false (D.nil (D.cell 1 (nth r1 0))) (.r3 (D.r3 (D.cell 1 (nth r1 0))))), (.arr false (D.nil (D.cell 2 (nth r1 0))) (.ints .i64 (D.ints (D.cell 2 (nth r1 0))))), (.arr false (D.nil (D.cell 3 (nth r1 0))) (.ints .i64 (D.ints (D.cell 3 (nth r1 0))))), (.arr false (D.nil (D.cell 4 (nth r1 0))) (.ints .i64 (D.ints (D.cell 4 (nth r1 0)))))]), (.int .i64 (b4))]).bind fun r2 =>
 (go k spec_l15Decay [(.agg [(.int .i64 (D.toInt (D.cell 0 (nth r2 0)))), (.arr false (D.nil (D.cell 1 (nth r2 0))) (.r3 (D.r3 (D.cell 1 (nth r2 0))))), (.arr false (D.nil (D.cell 2 (nth r2 0))) (.ints .i64 (D.ints (D.cell 2 (nth r2 0))))), (.arr false (D.nil (D.cell 3 (nth r2 0))) (.ints .i64 (D.ints (D.cell 3 (nth r2 0))))), (.arr false (D.nil (D.cell 4 (nth r2 0))) (.ints .i64 (D.ints (D.cell 4 (nth r2 0)))))]), (.int .i64 (b5))]).bind fun r3 =>
 (go k spec_LedgerAdd [(.agg [(.int .i64 (D.toInt (D.cell 0 (nth r0 1)))), (.int .i64 (D.toInt (D.cell 1 (nth r0 1)))), (.int .i64 (D.toInt (D.cell 2 (nth r0 1)))), (.int .i64 (D.toInt (D.cell 3 (nth r0 1))))]), (.agg [(.int .i64 (D.toInt (D.cell 0 (nth r1 1)))), (.int .i64 (D.toInt (D.cell 1 (nth r1 1)))), (.int .i64 (D.toInt (D.cell 2 (nth r1 1)))), (.int .i64 (D.toInt (D.cell 3 (nth r1 1))))])]).bind fun r4 =>
 (go k spec_LedgerAdd [(.agg [(.int .i64 (D.toInt (D.cell 0 (nth r2 1)))), (.int .i64 (D.toInt (D.cell 1 (nth r2 1)))), (.int .i64 (D.toInt (D.cell 2 (nth r2 1)))), (.int .i64 (D.toInt (D.cell 3 (nth r2 1))))]), (.agg [(.int .i64 (D.toInt (D.cell 0 (nth r3 1)))), (.int .i64 (D.toInt (D.cell 1 (nth r3 1)))), (.int .i64 (D.toInt (D.cell 2 (nth r3 1)))), (.int .i64 (D.toInt (D.cell 3 (nth r3 1))))])]).bind fun r5 =>
 (go k spec_LedgerAdd [(.agg [(.int .i64 (D.toInt (D.cell 0 (nth r4 0)))), (.int .i64 (D.toInt (D.cell 1 (nth r4 0)))), (.int .i64 (D.toInt (D.cell 2 (nth r4 0)))), (.int .i64 (D.toInt (D.cell 3 (nth r4 0))))]), (.agg [(.int .i64 (D.toInt (D.cell 0 (nth r5 0)))), (.int .i64 (D.toInt (D.cell 1 (nth r5 0)))), (.int .i64 (D.toInt (D.cell 2 (nth r5 0)))), (.int .i64 (D.toInt (D.cell 3 (nth r5 0))))])]).bind fun r6 =>
 lp k spec_l18Macro [] [] 8 k (qnc c (0 : Int) b0 b1 b2 b3 b4 b5 b6 b7 b8 true ([]) true ([]) true ([]) true ([]) (0 : Int) (0 : Int) (0 : Int) (0 : Int) (0 : Int) (D.nil (D.cell 1 (nth r3 0))) (D.r3 (D.cell 1 (nth r3 0))) (D.nil (D.cell 2 (nth r3 0))) (D.ints (D.cell 2 (nth r3 0))) (D.nil (D.cell 3 (nth r3 0))) (D.ints (D.cell 3 (nth r3 0))) (D.nil (D.cell 4 (nth r3 0))) (D.ints (D.cell 4 (nth r3 0))) (D.toInt (D.cell 0 (nth r3 0))) (D.toInt (D.cell 0 (nth r6 0))) (D.toInt (D.cell 1 (nth r6 0))) (D.toInt (D.cell 2 (nth r6 0))) (D.toInt (D.cell 3 (nth r6 0)))) := by kernel_rfl
theorem qji (k n : Nat) (fu : List (Nat × Nat)) (x0 x1 x2 x3 x4 x5 x6 x7 x8 x9 x10 : Int) (z11 : Bool) (l12 : List (Int × Int × Int)) (z13 : Bool) (l14 : List Int) (z15 : Bool) (l16 : List Int) (z17 : Bool) (l18 : List Int) (x19 x20 x21 x22 x23 : Int) (z24 : Bool) (l25 : List (Int × Int × Int)) (z26 : Bool) (l27 : List Int) (z28 : Bool) (l29 : List Int) (z30 : Bool) (l31 : List Int) (x32 x33 x34 x35 x36 : Int) : lp k spec_l18Macro [] fu 8 (n + 1) (qnc x0 x1 x2 x3 x4 x5 x6 x7 x8 x9 x10 z11 l12 z13 l14 z15 l16 z17 l18 x19 x20 x21 x22 x23 z24 l25 z26 l27 z28 l29 z30 l31 x32 x33 x34 x35 x36) =
 cond (decide (x1 < (16 : Int)))
 ((go k spec_l11Step [(.agg [(.int .i64 (x32)), (.arr false (z24) (.r3 (l25))), (.arr false (z26) (.ints .i64 (l27))), (.arr false (z28) (.ints .i64 (l29))), (.arr false (z30) (.ints .i64 (l31)))]), (.int .i64 (x1))]).bind fun r0 =>
 lp k spec_l18Macro [] fu 8 n (qnc x0 (IntKind.wrap .i64 (x1 + (1 : Int))) x2 x3 x4 x5 x6 x7 x8 x9 x10 z11 l12 z13 l14 z15 l16 z17 l18 x19 x20 x21 x22 x23 (D.nil (D.cell 1 (nth r0 0))) (D.r3 (D.cell 1 (nth r0 0))) (D.nil (D.cell 2 (nth r0 0))) (D.ints (D.cell 2 (nth r0 0))) (D.nil (D.cell 3 (nth r0 0))) (D.ints (D.cell 3 (nth r0 0))) (D.nil (D.cell 4 (nth r0 0))) (D.ints (D.cell 4 (nth r0 0))) (D.toInt (D.cell 0 (nth r0 0))) x33 x34 x35 x36))
 (cond (decide ((0 : Int) < x10))
 (cond (!decide (x10 = (0 : Int)))
 (cond (decide (Int.tmod (IntKind.wrap .i64 (x0 + (1 : Int))) x10 = (0 : Int)))
 ((go k spec_l17Adapt [(.agg [(.int .i64 (x32)), (.arr false (z24) (.r3 (l25))), (.arr false (z26) (.ints .i64 (l27))), (.arr false (z28) (.ints .i64 (l29))), (.arr false (z30) (.ints .i64 (l31)))]), (.int .i64 (x8)), (.int .i64 (x9))]).bind fun r1 =>
 some [(.agg [(.int .i64 (D.toInt (D.cell 0 (nth r1 0)))), (.arr true (D.nil (D.cell 1 (nth r1 0))) (.r3 (D.r3 (D.cell 1 (nth r1 0))))), (.arr true (D.nil (D.cell 2 (nth r1 0))) (.ints .i64 (D.ints (D.cell 2 (nth r1 0))))), (.arr true (D.nil (D.cell 3 (nth r1 0))) (.ints .i64 (D.ints (D.cell 3 (nth r1 0))))), (.arr true (D.nil (D.cell 4 (nth r1 0))) (.ints .i64 (D.ints (D.cell 4 (nth r1 0)))))]), (.agg [(.int .i64 (x33)), (.int .i64 (x34)), (.int .i64 (x35)), (.int .i64 (x36))])])
 (some [(.agg [(.int .i64 (x32)), (.arr true (z24) (.r3 (l25))), (.arr true (z26) (.ints .i64 (l27))), (.arr true (z28) (.ints .i64 (l29))), (.arr true (z30) (.ints .i64 (l31)))]), (.agg [(.int .i64 (x33)), (.int .i64 (x34)), (.int .i64 (x35)), (.int .i64 (x36))])]))
 (none))
 (some [(.agg [(.int .i64 (x32)), (.arr true (z24) (.r3 (l25))), (.arr true (z26) (.ints .i64 (l27))), (.arr true (z28) (.ints .i64 (l29))), (.arr true (z30) (.ints .i64 (l31)))]), (.agg [(.int .i64 (x33)), (.int .i64 (x34)), (.int .i64 (x35)), (.int .i64 (x36))])])) := by kernel_rfl

end Go.Proofs.Ytcaapedadpnjoaa
end
section
namespace Go.Proofs.Ytcaapedadpnjoaa
open Go.Ev
def qm3 (x0 : Int) (z1 : Bool) (l2 : List (Int × Int × Int)) (z3 : Bool) (l4 : List Int) (z5 : Bool) (l6 : List Int) (z7 : Bool) (l8 : List Int) (x9 : Int) (z10 : Bool) (l11 : List (Int × Int × Int)) (z12 : Bool) (l13 : List Int) (z14 : Bool) (l15 : List Int) (z16 : Bool) (l17 : List Int) (x18 : Int) : St := ⟨fill 19 [(1, (.ptr 4 (0) (0))), (2, (.ptr 9 (0) (0))), (3, (.int .i64 (x0)))], [], [(.arr true (z1) (.r3 (l2))), (.arr true (z3) (.ints .i64 (l4))), (.arr true (z5) (.ints .i64 (l6))), (.arr true (z7) (.ints .i64 (l8))), (.box true [(.int .i64 (x9)), (.sl 0 none), (.sl 1 none), (.sl 2 none), (.sl 3 none)]), (.arr true (z10) (.r3 (l11))), (.arr true (z12) (.ints .i64 (l13))), (.arr true (z14) (.ints .i64 (l15))), (.arr true (z16) (.ints .i64 (l17))), (.box true [(.int .i64 (x18)), (.sl 5 none), (.sl 6 none), (.sl 7 none), (.sl 8 none)])]⟩
theorem qg5 (k : Nat) (a0 : Int) (a1z : Bool) (a1 : List (Int × Int × Int)) (a2z : Bool) (a2 : List Int) (a3z : Bool) (a3 : List Int) (a4z : Bool) (a4 : List Int) : go (k + 1) spec_l08Level [(.agg [(.int .i64 (a0)), (.arr true (a1z) (.r3 (a1))), (.arr true (a2z) (.ints .i64 (a2))), (.arr true (a3z) (.ints .i64 (a3))), (.arr true (a4z) (.ints .i64 (a4)))])] =
 (go k spec_l05First [(.agg [(.int .i64 (a0)), (.arr false (a1z) (.r3 (a1)))])]).bind fun r0 =>
 lp k spec_l08Level [] [] 2 k (qm3 (D.toInt (nth r0 0)) a1z a1 a2z a2 a3z a3 a4z a4 a0 true ([]) true ([]) true ([]) true ([]) (0 : Int)) := by kernel_rfl
theorem qi9 (k n : Nat) (fu : List (Nat × Nat)) (x0 : Int) (z1 : Bool) (l2 : List (Int × Int × Int)) (z3 : Bool) (l4 : List Int) (z5 : Bool) (l6 : List Int) (z7 : Bool) (l8 : List Int) (x9 : Int) (z10 : Bool) (l11 : List (Int × Int × Int)) (z12 : Bool) (l13 : List Int) (z14 : Bool) (l15 : List Int) (z16 : Bool) (l17 : List Int) (x18 : Int) : lp k spec_l08Level [] fu 2 (n + 1) (qm3 x0 z1 l2 z3 l4 z5 l6 z7 l8 x9 z10 l11 z12 l13 z14 l15 z16 l17 x18) =
 cond (decide ((0 : Int) ≤ x0))
 ((go k spec_l05Coarser [(.agg [(.int .i64 (x9)), (.arr false (z1) (.r3 (l2)))]), (.int .i64 (x0))]).bind fun r0 =>
 (go k spec_l08Split [(.agg [(.int .i64 (x9)), (.arr false (z1) (.r3 (l2))), (.arr false (z3) (.ints .i64 (l4))), (.arr false (z5) (.ints .i64 (l6))), (.arr false (z7) (.ints .i64 (l8)))]), (.int .i64 (D.toInt (nth r0 0)))]).bind fun r1 =>
 (go k spec_l05First [(.agg [(.int .i64 (D.toInt (D.cell 0 (nth r1 0)))), (.arr false (D.nil (D.cell 1 (nth r1 0))) (.r3 (D.r3 (D.cell 1 (nth r1 0)))))])]).bind fun r2 =>
 lp k spec_l08Level [] fu 2 n (qm3 (D.toInt (nth r2 0)) (D.nil (D.cell 1 (nth r1 0))) (D.r3 (D.cell 1 (nth r1 0))) (D.nil (D.cell 2 (nth r1 0))) (D.ints (D.cell 2 (nth r1 0))) (D.nil (D.cell 3 (nth r1 0))) (D.ints (D.cell 3 (nth r1 0))) (D.nil (D.cell 4 (nth r1 0))) (D.ints (D.cell 4 (nth r1 0))) (D.toInt (D.cell 0 (nth r1 0))) z10 l11 z12 l13 z14 l15 z16 l17 x18))
 (some [(.agg [(.int .i64 (x9)), (.arr true (z1) (.r3 (l2))), (.arr true (z3) (.ints .i64 (l4))), (.arr true (z5) (.ints .i64 (l6))), (.arr true (z7) (.ints .i64 (l8)))])]) := by kernel_rfl
def qna (x0 : Int) (z1 : Bool) (l2 : List (Int × Int × Int)) (z3 : Bool) (l4 : List Int) (z5 : Bool) (l6 : List Int) (z7 : Bool) (l8 : List Int) (x9 : Int) (z10 : Bool) (l11 : List (Int × Int × Int)) (z12 : Bool) (l13 : List Int) (z14 : Bool) (l15 : List Int) (z16 : Bool) (l17 : List Int) (x18 : Int) (z19 : Bool) (l20 : List Int) (z21 : Bool) (l22 : List (Int × Int × Int)) (z23 : Bool) (l24 : List Int) (z25 : Bool) (l26 : List Int) (z27 : Bool) (l28 : List Int) (x29 : Int) : St := ⟨fill 93 [(3, (.ptr 4 (0) (0))), (6, (.ptr 9 (0) (0))), (7, (.sl 10 none)), (8, (.ptr 15 (0) (0))), (10, (.int .i64 (x0)))], [], [(.arr false (z1) (.r3 (l2))), (.arr false (z3) (.ints .i64 (l4))), (.arr false (z5) (.ints .i64 (l6))), (.arr false (z7) (.ints .i64 (l8))), (.box true [(.int .i64 (x9)), (.sl 0 none), (.sl 1 none), (.sl 2 none), (.sl 3 none)]), (.arr true (z10) (.r3 (l11))), (.arr true (z12) (.ints .i64 (l13))), (.arr true (z14) (.ints .i64 (l15))), (.arr true (z16) (.ints .i64 (l17))), (.box true [(.int .i64 (x18)), (.sl 5 none), (.sl 6 none), (.sl 7 none), (.sl 8 none)]), (.arr true (z19) (.ints .i64 (l20))), (.arr true (z21) (.r3 (l22))), (.arr true (z23) (.ints .i64 (l24))), (.arr true (z25) (.ints .i64 (l26))), (.arr true (z27) (.ints .i64 (l28))), (.box true [(.int .i64 (x29)), (.sl 11 none), (.sl 12 none), (.sl 13 none), (.sl 14 none)])]⟩
def qnb (x0 : Int) (z1 : Bool) (l2 : List (Int × Int × Int)) (z3 : Bool) (l4 : List Int) (z5 : Bool) (l6 : List Int) (z7 : Bool) (l8 : List Int) (x9 : Int) (z10 : Bool) (l11 : List (Int × Int × Int)) (z12 : Bool) (l13 : List Int) (z14 : Bool) (l15 : List Int) (z16 : Bool) (l17 : List Int) (x18 : Int) (z19 : Bool) (l20 : List Int) (z21 : Bool) (l22 : List (Int × Int × Int)) (z23 : Bool) (l24 : List Int) (z25 : Bool) (l26 : List Int) (z27 : Bool) (l28 : List Int) (x29 : Int) : St := ⟨fill 93 [(3, (.ptr 4 (0) (0))), (6, (.ptr 9 (0) (0))), (7, (.sl 10 none)), (8, (.ptr 15 (0) (0))), (9, (.int .i64 (x0)))], [], [(.arr false (z1) (.r3 (l2))), (.arr false (z3) (.ints .i64 (l4))), (.arr false (z5) (.ints .i64 (l6))), (.arr false (z7) (.ints .i64 (l8))), (.box true [(.int .i64 (x9)), (.sl 0 none), (.sl 1 none), (.sl 2 none), (.sl 3 none)]), (.arr true (z10) (.r3 (l11))), (.arr true (z12) (.ints .i64 (l13))), (.arr true (z14) (.ints .i64 (l15))), (.arr true (z16) (.ints .i64 (l17))), (.box true [(.int .i64 (x18)), (.sl 5 none), (.sl 6 none), (.sl 7 none), (.sl 8 none)]), (.arr true (z19) (.ints .i64 (l20))), (.arr true (z21) (.r3 (l22))), (.arr true (z23) (.ints .i64 (l24))), (.arr true (z25) (.ints .i64 (l26))), (.arr true (z27) (.ints .i64 (l28))), (.box true [(.int .i64 (x29)), (.sl 11 none), (.sl 12 none), (.sl 13 none), (.sl 14 none)])]⟩
theorem qhl (k : Nat) (a0 : Int) (a1z : Bool) (a1 : List (Int × Int × Int)) (a2z : Bool) (a2 : List Int) (a3z : Bool) (a3 : List Int) (a4z : Bool) (a4 : List Int) (b c : Int) : go (k + 1) spec_l17Adapt [(.agg [(.int .i64 (a0)), (.arr false (a1z) (.r3 (a1))), (.arr false (a2z) (.ints .i64 (a2))), (.arr false (a3z) (.ints .i64 (a3))), (.arr false (a4z) (.ints .i64 (a4)))]), (.int .i64 (b)), (.int .i64 (c))] =
 (go k spec_l16Wishes [(.agg [(.int .i64 (a0)), (.arr false (a1z) (.r3 (a1))), (.arr false (a2z) (.ints .i64 (a2))), (.arr false (a3z) (.ints .i64 (a3))), (.arr false (a4z) (.ints .i64 (a4)))]), (.int .i64 (b)), (.int .i64 (c))]).bind fun r0 =>
 (go k spec_l07Copy [(.agg [(.int .i64 (a0)), (.arr false (a1z) (.r3 (a1))), (.arr false (a2z) (.ints .i64 (a2))), (.arr false (a3z) (.ints .i64 (a3))), (.arr false (a4z) (.ints .i64 (a4)))])]).bind fun r1 =>
 lp k spec_l17Adapt [] [] 4 k (qnb (IntKind.wrap .i64 (nI (List.length (D.ints (nth r0 0))) - (1 : Int))) a1z a1 a2z a2 a3z a3 a4z a4 a0 true ([]) true ([]) true ([]) true ([]) (0 : Int) (D.nil (nth r0 0)) (D.ints (nth r0 0)) (D.nil (D.cell 1 (nth r1 0))) (D.r3 (D.cell 1 (nth r1 0))) (D.nil (D.cell 2 (nth r1 0))) (D.ints (D.cell 2 (nth r1 0))) (D.nil (D.cell 3 (nth r1 0))) (D.ints (D.cell 3 (nth r1 0))) (D.nil (D.cell 4 (nth r1 0))) (D.ints (D.cell 4 (nth r1 0))) (D.toInt (D.cell 0 (nth r1 0)))) := by kernel_rfl
theorem qjg (k n : Nat) (fu : List (Nat × Nat)) (x0 : Int) (z1 : Bool) (l2 : List (Int × Int × Int)) (z3 : Bool) (l4 : List Int) (z5 : Bool) (l6 : List Int) (z7 : Bool) (l8 : List Int) (x9 : Int) (z10 : Bool) (l11 : List (Int × Int × Int)) (z12 : Bool) (l13 : List Int) (z14 : Bool) (l15 : List Int) (z16 : Bool) (l17 : List Int) (x18 : Int) (z19 : Bool) (l20 : List Int) (z21 : Bool) (l22 : List (Int × Int × Int)) (z23 : Bool) (l24 : List Int) (z25 : Bool) (l26 : List Int) (z27 : Bool) (l28 : List Int) (x29 : Int) : lp k spec_l17Adapt [] fu 10 (n + 1) (qna x0 z1 l2 z3 l4 z5 l6 z7 l8 x9 z10 l11 z12 l13 z14 l15 z16 l17 x18 z19 l20 z21 l22 z23 l24 z25 l26 z27 l28 x29) =
 cond (decide (IntKind.wrap .i64 (x0 + (1 : Int)) < nI (List.length l24)))
 (cond (decide ((0 : Int) ≤ x0) && decide (x0 < nI (List.length l22)))
 ((go k spec_LeafOf [(.agg [(.int .i64 (x9)), (.arr false (z1) (.r3 (l2)))]), (.agg [(.int .i64 (Prod.fst (List.getD l22 (Int.toNat x0) zz3))), (.int .i64 (Prod.fst (Prod.snd (List.getD l22 (Int.toNat x0) zz3)))), (.int .i64 (Prod.snd (Prod.snd (List.getD l22 (Int.toNat x0) zz3))))])]).bind fun r0 =>
 cond (decide ((0 : Int) ≤ IntKind.wrap .i64 (x0 + (1 : Int))) && decide (IntKind.wrap .i64 (x0 + (1 : Int)) < nI (List.length l22)))
 ((go k spec_LeafOf [(.agg [(.int .i64 (x9)), (.arr false (z1) (.r3 (l2)))]), (.agg [(.int .i64 (Prod.fst (List.getD l22 (Int.toNat (IntKind.wrap .i64 (x0 + (1 : Int)))) zz3))), (.int .i64 (Prod.fst (Prod.snd (List.getD l22 (Int.toNat (IntKind.wrap .i64 (x0 + (1 : Int)))) zz3)))), (.int .i64 (Prod.snd (Prod.snd (List.getD l22 (Int.toNat (IntKind.wrap .i64 (x0 + (1 : Int)))) zz3))))])]).bind fun r1 =>
 cond (decide ((0 : Int) ≤ D.toInt (nth r0 0)))
 (cond (decide ((0 : Int) ≤ D.toInt (nth r1 0)))
 (cond (decide ((0 : Int) ≤ D.toInt (nth r0 0)) && decide (D.toInt (nth r0 0) < nI (List.length l20)))
 (cond (decide (List.getD l20 (Int.toNat (D.toInt (nth r0 0))) (0 : Int) = (-1 : Int)))
 (cond (decide ((0 : Int) ≤ D.toInt (nth r1 0)) && decide (D.toInt (nth r1 0) < nI (List.length l20)))
 (cond (decide (List.getD l20 (Int.toNat (D.toInt (nth r1 0))) (0 : Int) = (-1 : Int)))
 ((go k spec_l06May [(.agg [(.int .i64 (x29)), (.arr false (z21) (.r3 (l22)))]), (.int .i64 (x0))]).bind fun r2 =>
 cond (bit (nth r2 0))
 ((go k spec_l08Merge [(.agg [(.int .i64 (x29)), (.arr false (z21) (.r3 (l22))), (.arr false (z23) (.ints .i64 (l24))), (.arr false (z25) (.ints .i64 (l26))), (.arr false (z27) (.ints .i64 (l28)))]), (.int .i64 (x0))]).bind fun r3 =>
 lp k spec_l17Adapt [] fu 10 n (qna (IntKind.wrap .i64 (x0 + (1 : Int))) z1 l2 z3 l4 z5 l6 z7 l8 x9 z10 l11 z12 l13 z14 l15 z16 l17 x18 z19 l20 (D.nil (D.cell 1 (nth r3 0))) (D.r3 (D.cell 1 (nth r3 0))) (D.nil (D.cell 2 (nth r3 0))) (D.ints (D.cell 2 (nth r3 0))) (D.nil (D.cell 3 (nth r3 0))) (D.ints (D.cell 3 (nth r3 0))) (D.nil (D.cell 4 (nth r3 0))) (D.ints (D.cell 4 (nth r3 0))) (D.toInt (D.cell 0 (nth r3 0)))))
 (lp k spec_l17Adapt [] fu 10 n (qna (IntKind.wrap .i64 (x0 + (1 : Int))) z1 l2 z3 l4 z5 l6 z7 l8 x9 z10 l11 z12 l13 z14 l15 z16 l17 x18 z19 l20 z21 l22 z23 l24 z25 l26 z27 l28 x29)))
 (lp k spec_l17Adapt [] fu 10 n (qna (IntKind.wrap .i64 (x0 + (1 : Int))) z1 l2 z3 l4 z5 l6 z7 l8 x9 z10 l11 z12 l13 z14 l15 z16 l17 x18 z19 l20 z21 l22 z23 l24 z25 l26 z27 l28 x29)))
 (none))
 (lp k spec_l17Adapt [] fu 10 n (qna (IntKind.wrap .i64 (x0 + (1 : Int))) z1 l2 z3 l4 z5 l6 z7 l8 x9 z10 l11 z12 l13 z14 l15 z16 l17 x18 z19 l20 z21 l22 z23 l24 z25 l26 z27 l28 x29)))
 (none))
 (lp k spec_l17Adapt [] fu 10 n (qna (IntKind.wrap .i64 (x0 + (1 : Int))) z1 l2 z3 l4 z5 l6 z7 l8 x9 z10 l11 z12 l13 z14 l15 z16 l17 x18 z19 l20 z21 l22 z23 l24 z25 l26 z27 l28 x29)))
 (lp k spec_l17Adapt [] fu 10 n (qna (IntKind.wrap .i64 (x0 + (1 : Int))) z1 l2 z3 l4 z5 l6 z7 l8 x9 z10 l11 z12 l13 z14 l15 z16 l17 x18 z19 l20 z21 l22 z23 l24 z25 l26 z27 l28 x29)))
 (none))
 (none))
 (some [(.agg [(.int .i64 (x29)), (.arr true (z21) (.r3 (l22))), (.arr true (z23) (.ints .i64 (l24))), (.arr true (z25) (.ints .i64 (l26))), (.arr true (z27) (.ints .i64 (l28)))])]) := by kernel_rfl
theorem qjh (k n : Nat) (fu : List (Nat × Nat)) (x0 : Int) (z1 : Bool) (l2 : List (Int × Int × Int)) (z3 : Bool) (l4 : List Int) (z5 : Bool) (l6 : List Int) (z7 : Bool) (l8 : List Int) (x9 : Int) (z10 : Bool) (l11 : List (Int × Int × Int)) (z12 : Bool) (l13 : List Int) (z14 : Bool) (l15 : List Int) (z16 : Bool) (l17 : List Int) (x18 : Int) (z19 : Bool) (l20 : List Int) (z21 : Bool) (l22 : List (Int × Int × Int)) (z23 : Bool) (l24 : List Int) (z25 : Bool) (l26 : List Int) (z27 : Bool) (l28 : List Int) (x29 : Int) : lp k spec_l17Adapt [] fu 4 (n + 1) (qnb x0 z1 l2 z3 l4 z5 l6 z7 l8 x9 z10 l11 z12 l13 z14 l15 z16 l17 x18 z19 l20 z21 l22 z23 l24 z25 l26 z27 l28 x29) =
 cond (decide ((0 : Int) ≤ x0))
 (cond (decide ((0 : Int) ≤ x0) && decide (x0 < nI (List.length l20)))
 (cond (decide (List.getD l20 (Int.toNat x0) (0 : Int) = (1 : Int)))
 ((go k spec_l08Split [(.agg [(.int .i64 (x29)), (.arr false (z21) (.r3 (l22))), (.arr false (z23) (.ints .i64 (l24))), (.arr false (z25) (.ints .i64 (l26))), (.arr false (z27) (.ints .i64 (l28)))]), (.int .i64 (x0))]).bind fun r0 =>
 lp k spec_l17Adapt [] fu 4 n (qnb (IntKind.wrap .i64 (x0 - (1 : Int))) z1 l2 z3 l4 z5 l6 z7 l8 x9 z10 l11 z12 l13 z14 l15 z16 l17 x18 z19 l20 (D.nil (D.cell 1 (nth r0 0))) (D.r3 (D.cell 1 (nth r0 0))) (D.nil (D.cell 2 (nth r0 0))) (D.ints (D.cell 2 (nth r0 0))) (D.nil (D.cell 3 (nth r0 0))) (D.ints (D.cell 3 (nth r0 0))) (D.nil (D.cell 4 (nth r0 0))) (D.ints (D.cell 4 (nth r0 0))) (D.toInt (D.cell 0 (nth r0 0)))))
 (lp k spec_l17Adapt [] fu 4 n (qnb (IntKind.wrap .i64 (x0 - (1 : Int))) z1 l2 z3 l4 z5 l6 z7 l8 x9 z10 l11 z12 l13 z14 l15 z16 l17 x18 z19 l20 z21 l22 z23 l24 z25 l26 z27 l28 x29)))
 (none))
 ((go k spec_l08Level [(.agg [(.int .i64 (x29)), (.arr true (z21) (.r3 (l22))), (.arr true (z23) (.ints .i64 (l24))), (.arr true (z25) (.ints .i64 (l26))), (.arr true (z27) (.ints .i64 (l28)))])]).bind fun r1 =>
 lp k spec_l17Adapt [] fu 10 k (qna (0 : Int) z1 l2 z3 l4 z5 l6 z7 l8 x9 z10 l11 z12 l13 z14 l15 z16 l17 x18 z19 l20 (D.nil (D.cell 1 (nth r1 0))) (D.r3 (D.cell 1 (nth r1 0))) (D.nil (D.cell 2 (nth r1 0))) (D.ints (D.cell 2 (nth r1 0))) (D.nil (D.cell 3 (nth r1 0))) (D.ints (D.cell 3 (nth r1 0))) (D.nil (D.cell 4 (nth r1 0))) (D.ints (D.cell 4 (nth r1 0))) (D.toInt (D.cell 0 (nth r1 0))))) := by kernel_rfl
def qm9 (x0 x1 x2 : Int) (z3 : Bool) (l4 : List (Int × Int × Int)) (z5 : Bool) (l6 : List Int) (z7 : Bool) (l8 : List Int) (z9 : Bool) (l10 : List Int) (x11 : Int) (z12 : Bool) (l13 : List Int) : St := ⟨fill 53 [(1, (.int .i64 (x0))), (2, (.int .i64 (x1))), (3, (.ptr 4 (0) (0))), (7, (.sl 5 none)), (8, (.int .i64 (x2)))], [], [(.arr false (z3) (.r3 (l4))), (.arr false (z5) (.ints .i64 (l6))), (.arr false (z7) (.ints .i64 (l8))), (.arr false (z9) (.ints .i64 (l10))), (.box true [(.int .i64 (x11)), (.sl 0 none), (.sl 1 none), (.sl 2 none), (.sl 3 none)]), (.arr true (z12) (.ints .i64 (l13)))]⟩
theorem qhk (k : Nat) (a0 : Int) (a1z : Bool) (a1 : List (Int × Int × Int)) (a2z : Bool) (a2 : List Int) (a3z : Bool) (a3 : List Int) (a4z : Bool) (a4 : List Int) (b c : Int) : go (k + 1) spec_l16Wishes [(.agg [(.int .i64 (a0)), (.arr false (a1z) (.r3 (a1))), (.arr false (a2z) (.ints .i64 (a2))), (.arr false (a3z) (.ints .i64 (a3))), (.arr false (a4z) (.ints .i64 (a4)))]), (.int .i64 (b)), (.int .i64 (c))] =
 lp k spec_l16Wishes [] [] 3 k (qm9 b c (0 : Int) a1z a1 a2z a2 a3z a3 a4z a4 a0 false ([])) := by kernel_rfl
theorem qjf (k n : Nat) (fu : List (Nat × Nat)) (x0 x1 x2 : Int) (z3 : Bool) (l4 : List (Int × Int × Int)) (z5 : Bool) (l6 : List Int) (z7 : Bool) (l8 : List Int) (z9 : Bool) (l10 : List Int) (x11 : Int) (z12 : Bool) (l13 : List Int) : lp k spec_l16Wishes [] fu 3 (n + 1) (qm9 x0 x1 x2 z3 l4 z5 l6 z7 l8 z9 l10 x11 z12 l13) =
 cond (decide (x2 < nI (List.length l6)))
 ((go k spec_l16Jump [(.agg [(.int .i64 (x11)), (.arr false (z3) (.r3 (l4))), (.arr false (z5) (.ints .i64 (l6))), (.arr false (z7) (.ints .i64 (l8))), (.arr false (z9) (.ints .i64 (l10)))]), (.int .i64 (x2))]).bind fun r0 =>
 cond (decide (x0 < D.toInt (nth r0 0)))
 (cond (decide ((0 : Int) ≤ x2) && decide (x2 < nI (List.length l4)))
 (cond (decide (Prod.fst (Prod.snd (List.getD l4 (Int.toNat x2) zz3)) < (4 : Int)))
 (cond (decide (List.length (l13 ++ [(1 : Int)]) ≤ bigLen))
 (lp k spec_l16Wishes [] fu 3 n (qm9 x0 x1 (IntKind.wrap .i64 (x2 + (1 : Int))) z3 l4 z5 l6 z7 l8 z9 l10 x11 (z12 && decide (List.length (l13 ++ [(1 : Int)]) = 0)) (l13 ++ [(1 : Int)])))
 (none))
 (cond (decide (D.toInt (nth r0 0) < x1))
 (cond (decide ((0 : Int) ≤ x2) && decide (x2 < nI (List.length l4)))
 (cond (decide ((0 : Int) < Prod.fst (Prod.snd (List.getD l4 (Int.toNat x2) zz3))))
 (cond (decide (List.length (l13 ++ [(-1 : Int)]) ≤ bigLen))
 (lp k spec_l16Wishes [] fu 3 n (qm9 x0 x1 (IntKind.wrap .i64 (x2 + (1 : Int))) z3 l4 z5 l6 z7 l8 z9 l10 x11 (z12 && decide (List.length (l13 ++ [(-1 : Int)]) = 0)) (l13 ++ [(-1 : Int)])))
 (none))
 (cond (decide (List.length (l13 ++ [(0 : Int)]) ≤ bigLen))
 (lp k spec_l16Wishes [] fu 3 n (qm9 x0 x1 (IntKind.wrap .i64 (x2 + (1 : Int))) z3 l4 z5 l6 z7 l8 z9 l10 x11 (z12 && decide (List.length (l13 ++ [(0 : Int)]) = 0)) (l13 ++ [(0 : Int)])))
 (none)))
 (none))
 (cond (decide (List.length (l13 ++ [(0 : Int)]) ≤ bigLen))
 (lp k spec_l16Wishes [] fu 3 n (qm9 x0 x1 (IntKind.wrap .i64 (x2 + (1 : Int))) z3 l4 z5 l6 z7 l8 z9 l10 x11 (z12 && decide (List.length (l13 ++ [(0 : Int)]) = 0)) (l13 ++ [(0 : Int)])))
 (none))))
 (none))
 (cond (decide (D.toInt (nth r0 0) < x1))
 (cond (decide ((0 : Int) ≤ x2) && decide (x2 < nI (List.length l4)))
 (cond (decide ((0 : Int) < Prod.fst (Prod.snd (List.getD l4 (Int.toNat x2) zz3))))
 (cond (decide (List.length (l13 ++ [(-1 : Int)]) ≤ bigLen))
 (lp k spec_l16Wishes [] fu 3 n (qm9 x0 x1 (IntKind.wrap .i64 (x2 + (1 : Int))) z3 l4 z5 l6 z7 l8 z9 l10 x11 (z12 && decide (List.length (l13 ++ [(-1 : Int)]) = 0)) (l13 ++ [(-1 : Int)])))
 (none))
 (cond (decide (List.length (l13 ++ [(0 : Int)]) ≤ bigLen))
 (lp k spec_l16Wishes [] fu 3 n (qm9 x0 x1 (IntKind.wrap .i64 (x2 + (1 : Int))) z3 l4 z5 l6 z7 l8 z9 l10 x11 (z12 && decide (List.length (l13 ++ [(0 : Int)]) = 0)) (l13 ++ [(0 : Int)])))
 (none)))
 (none))
 (cond (decide (List.length (l13 ++ [(0 : Int)]) ≤ bigLen))
 (lp k spec_l16Wishes [] fu 3 n (qm9 x0 x1 (IntKind.wrap .i64 (x2 + (1 : Int))) z3 l4 z5 l6 z7 l8 z9 l10 x11 (z12 && decide (List.length (l13 ++ [(0 : Int)]) = 0)) (l13 ++ [(0 : Int)])))
 (none))))
 (some [(.arr true (z12) (.ints .i64 (l13)))]) := by kernel_rfl
theorem qhj (k : Nat) (a0 : Int) (a1z : Bool) (a1 : List (Int × Int × Int)) (a2z : Bool) (a2 : List Int) (a3z : Bool) (a3 : List Int) (a4z : Bool) (a4 : List Int) (b : Int) : go (k + 1) spec_l16Jump [(.agg [(.int .i64 (a0)), (.arr false (a1z) (.r3 (a1))), (.arr false (a2z) (.ints .i64 (a2))), (.arr false (a3z) (.ints .i64 (a3))), (.arr false (a4z) (.ints .i64 (a4)))]), (.int .i64 (b))] =
 cond (decide ((0 : Int) < b))
 ((go k spec_l09Surface [(.agg [(.int .i64 (a0)), (.arr false (a1z) (.r3 (a1))), (.arr false (a2z) (.ints .i64 (a2))), (.arr false (a3z) (.ints .i64 (a3))), (.arr false (a4z) (.ints .i64 (a4)))]), (.int .i64 (b))]).bind fun r0 =>
 (go k spec_l09Surface [(.agg [(.int .i64 (a0)), (.arr false (a1z) (.r3 (a1))), (.arr false (a2z) (.ints .i64 (a2))), (.arr false (a3z) (.ints .i64 (a3))), (.arr false (a4z) (.ints .i64 (a4)))]), (.int .i64 (IntKind.wrap .i64 (b - (1 : Int))))]).bind fun r1 =>
 (go k spec_l09Gap [(.int .i64 (D.toInt (nth r0 0))), (.int .i64 (D.toInt (nth r1 0)))]).bind fun r2 =>
 cond (decide (IntKind.wrap .i64 (b + (1 : Int)) < nI (List.length a2)))
 ((go k spec_l09Surface [(.agg [(.int .i64 (a0)), (.arr false (a1z) (.r3 (a1))), (.arr false (a2z) (.ints .i64 (a2))), (.arr false (a3z) (.ints .i64 (a3))), (.arr false (a4z) (.ints .i64 (a4)))]), (.int .i64 (b))]).bind fun r3 =>
 (go k spec_l09Surface [(.agg [(.int .i64 (a0)), (.arr false (a1z) (.r3 (a1))), (.arr false (a2z) (.ints .i64 (a2))), (.arr false (a3z) (.ints .i64 (a3))), (.arr false (a4z) (.ints .i64 (a4)))]), (.int .i64 (IntKind.wrap .i64 (b + (1 : Int))))]).bind fun r4 =>
 (go k spec_l09Gap [(.int .i64 (D.toInt (nth r3 0))), (.int .i64 (D.toInt (nth r4 0)))]).bind fun r5 =>
 some [(.int .i64 (if D.toInt (nth r5 0) > D.toInt (nth r2 0) then D.toInt (nth r5 0) else D.toInt (nth r2 0)))])
 (some [(.int .i64 (D.toInt (nth r2 0)))]))
 (cond (decide (IntKind.wrap .i64 (b + (1 : Int)) < nI (List.length a2)))
 ((go k spec_l09Surface [(.agg [(.int .i64 (a0)), (.arr false (a1z) (.r3 (a1))), (.arr false (a2z) (.ints .i64 (a2))), (.arr false (a3z) (.ints .i64 (a3))), (.arr false (a4z) (.ints .i64 (a4)))]), (.int .i64 (b))]).bind fun r6 =>
 (go k spec_l09Surface [(.agg [(.int .i64 (a0)), (.arr false (a1z) (.r3 (a1))), (.arr false (a2z) (.ints .i64 (a2))), (.arr false (a3z) (.ints .i64 (a3))), (.arr false (a4z) (.ints .i64 (a4)))]), (.int .i64 (IntKind.wrap .i64 (b + (1 : Int))))]).bind fun r7 =>
 (go k spec_l09Gap [(.int .i64 (D.toInt (nth r6 0))), (.int .i64 (D.toInt (nth r7 0)))]).bind fun r8 =>
 some [(.int .i64 (if D.toInt (nth r8 0) > (0 : Int) then D.toInt (nth r8 0) else (0 : Int)))])
 (some [(.int .i64 (0 : Int))])) := by kernel_rfl
def qmt (x0 : Int) (z1 : Bool) (l2 : List (Int × Int × Int)) (x3 x4 x5 x6 : Int) : St := ⟨fill 21 [(2, (.ptr 1 (0) (0))), (3, (.ptr 2 (0) (0))), (5, (.int .i64 (x0)))], [], [(.arr false (z1) (.r3 (l2))), (.box true [(.int .i64 (x3)), (.sl 0 none)]), (.box true [(.int .i64 (x4)), (.int .i64 (x5)), (.int .i64 (x6))])]⟩
theorem qgb (k : Nat) (a0 : Int) (a1z : Bool) (a1 : List (Int × Int × Int)) (b0 b1 b2 : Int) : go (k + 1) spec_LeafOf [(.agg [(.int .i64 (a0)), (.arr false (a1z) (.r3 (a1)))]), (.agg [(.int .i64 (b0)), (.int .i64 (b1)), (.int .i64 (b2))])] =
 lp k spec_LeafOf [] [] 2 k (qmt (0 : Int) a1z a1 a0 b0 b1 b2) := by kernel_rfl
theorem qiz (k n : Nat) (fu : List (Nat × Nat)) (x0 : Int) (z1 : Bool) (l2 : List (Int × Int × Int)) (x3 x4 x5 x6 : Int) : lp k spec_LeafOf [] fu 2 (n + 1) (qmt x0 z1 l2 x3 x4 x5 x6) =
 cond (decide (x0 < nI (List.length l2)))
 (cond (decide ((0 : Int) ≤ x0) && decide (x0 < nI (List.length l2)))
 (cond (decide (Prod.fst (List.getD l2 (Int.toNat x0) zz3) = x4) && (decide (Prod.fst (Prod.snd (List.getD l2 (Int.toNat x0) zz3)) = x5) && (decide (Prod.snd (Prod.snd (List.getD l2 (Int.toNat x0) zz3)) = x6) && true)))
 (some [(.int .i64 (x0))])
 (lp k spec_LeafOf [] fu 2 n (qmt (IntKind.wrap .i64 (x0 + (1 : Int))) z1 l2 x3 x4 x5 x6)))
 (none))
 (some [(.int .i64 ((-1 : Int)))]) := by kernel_rfl

end Go.Proofs.Ytcaapedadpnjoaa
end
