/- What the program's functions compute, and plain facts of it (part 1). No condition beyond those that each theorem states. -/
import Derived.Test.YtcaapedadpnjoaaXA
import Derived.ProofKit
import Derived.Test.YtcaapedadpnjoaaMH
import Derived.Deep.MidRow
import Derived.Deep.QuietTactic
import Derived.BigQuiet
set_option linter.unusedVariables false
set_option linter.unusedSimpArgs false
section
namespace Go.Proofs.Ytcaapedadpnjoaa
open Go.Ev
theorem qdz (k : Nat) (a0 a1 a2 : Int) : go (k + 1) laws_toId [(.agg [(.int .i64 (a0)), (.int .i64 (a1)), (.int .i64 (a2))])] =
 some [(.agg [(.int .i64 (a0)), (.int .i64 (a1)), (.int .i64 (a2))])] := by kernel_rfl
def qh2 (x0 : Int) (z1 : Bool) (l2 : List (Int × Int × Int)) (z3 : Bool) (l4 : List (Int × Int × Int)) : St := ⟨fill 23 [(0, (.sl 0 none)), (3, (.sl 1 none)), (4, (.int .i64 (x0)))], [], [(.arr false (z1) (.r3 (l2))), (.arr true (z3) (.r3 (l4)))]⟩
theorem qd0 (k : Nat) (az : Bool) (a : List (Int × Int × Int)) : go (k + 1) laws_toIdS [(.arr false (az) (.r3 (a)))] =
 cond (decide ((0 : Int) ≤ nI (List.length a)) && decide (nI (List.length a) ≤ nI (List.length a)) && decide (nI (List.length a) ≤ nI bigLen))
 (lp k laws_toIdS [] [] 3 k (qh2 (0 : Int) az a false (List.replicate (Int.toNat (nI (List.length a))) zz3)))
 (none) := by kernel_rfl
theorem qfg (k n : Nat) (fu : List (Nat × Nat)) (x0 : Int) (z1 : Bool) (l2 : List (Int × Int × Int)) (z3 : Bool) (l4 : List (Int × Int × Int)) : lp k laws_toIdS [] fu 3 (n + 1) (qh2 x0 z1 l2 z3 l4) =
 cond (decide (x0 < nI (List.length l2)))
 (cond (decide ((0 : Int) ≤ x0) && decide (x0 < nI (List.length l2)))
 ((go k laws_toId [(.agg [(.int .i64 (Prod.fst (List.getD l2 (Int.toNat x0) zz3))), (.int .i64 (Prod.fst (Prod.snd (List.getD l2 (Int.toNat x0) zz3)))), (.int .i64 (Prod.snd (Prod.snd (List.getD l2 (Int.toNat x0) zz3))))])]).bind fun r0 =>
 cond (decide ((0 : Int) ≤ x0) && decide (x0 < nI (List.length l4)))
 (lp k laws_toIdS [] fu 3 n (qh2 (IntKind.wrap .i64 (x0 + (1 : Int))) z1 l2 z3 (List.set l4 (Int.toNat x0) (D.toInt (D.cell 0 (nth r0 0)), D.toInt (D.cell 1 (nth r0 0)), D.toInt (D.cell 2 (nth r0 0))))))
 (none))
 (none))
 (some [(.arr true (z3) (.r3 (l4)))]) := by kernel_rfl
theorem qd2 (k : Nat) (a0 : Int) (a1z : Bool) (a1 : List (Int × Int × Int)) : go (k + 1) laws_toMesh [(.agg [(.int .i64 (a0)), (.arr false (a1z) (.r3 (a1)))])] =
 (go k laws_toIdS [(.arr false (a1z) (.r3 (a1)))]).bind fun r0 =>
 some [(.agg [(.int .i64 (a0)), (.arr true (D.nil (nth r0 0)) (.r3 (D.r3 (nth r0 0))))])] := by kernel_rfl
theorem qdu (k : Nat) (az : Bool) (a : List (Int × Int × Int)) (b : Int) : go (k + 1) laws_szIdS [(.arr false (az) (.r3 (a))), (.int .i64 (b))] =
 cond (decide (IntKind.wrap .i64 (b - nI (List.length a)) < (0 : Int)))
 (some [(.int .i64 ((-1 : Int)))])
 (some [(.int .i64 (IntKind.wrap .i64 (b - nI (List.length a))))]) := by kernel_rfl
theorem qdw (k : Nat) (a0 : Int) (a1z : Bool) (a1 : List (Int × Int × Int)) (b : Int) : go (k + 1) laws_szMesh [(.agg [(.int .i64 (a0)), (.arr false (a1z) (.r3 (a1)))]), (.int .i64 (b))] =
 (go k laws_szIdS [(.arr false (a1z) (.r3 (a1))), (.int .i64 (b))]).bind fun r0 =>
 cond (decide (D.toInt (nth r0 0) < (0 : Int)))
 (some [(.int .i64 ((-1 : Int)))])
 (some [(.int .i64 (D.toInt (nth r0 0)))]) := by kernel_rfl
theorem qdl (k : Nat) (a0 a1 a2 b0 b1 b2 : Int) : go (k + 1) laws_eqId [(.agg [(.int .i64 (a0)), (.int .i64 (a1)), (.int .i64 (a2))]), (.agg [(.int .i64 (b0)), (.int .i64 (b1)), (.int .i64 (b2))])] =
 cond (!decide (a0 = b0))
 (some [(.bool (false))])
 (cond (!decide (a1 = b1))
 (some [(.bool (false))])
 (cond (!decide (a2 = b2))
 (some [(.bool (false))])
 (some [(.bool (true))]))) := by kernel_rfl
def qhv (x0 : Int) (z1 : Bool) (l2 : List (Int × Int × Int)) (z3 : Bool) (l4 : List (Int × Int × Int)) : St := ⟨fill 27 [(0, (.sl 0 none)), (1, (.sl 1 none)), (5, (.int .i64 (x0)))], [], [(.arr false (z1) (.r3 (l2))), (.arr false (z3) (.r3 (l4)))]⟩
theorem qdm (k : Nat) (az : Bool) (a : List (Int × Int × Int)) (bz : Bool) (b : List (Int × Int × Int)) : go (k + 1) laws_eqIdS [(.arr false (az) (.r3 (a))), (.arr false (bz) (.r3 (b)))] =
 cond (!decide (nI (List.length a) = nI (List.length b)))
 (some [(.bool (false))])
 (lp k laws_eqIdS [] [] 4 k (qhv (0 : Int) az a bz b)) := by kernel_rfl
theorem qe9 (k n : Nat) (fu : List (Nat × Nat)) (x0 : Int) (z1 : Bool) (l2 : List (Int × Int × Int)) (z3 : Bool) (l4 : List (Int × Int × Int)) : lp k laws_eqIdS [] fu 4 (n + 1) (qhv x0 z1 l2 z3 l4) =
 cond (decide (x0 < nI (List.length l2)))
 (cond (decide ((0 : Int) ≤ x0) && decide (x0 < nI (List.length l2)))
 (cond (decide ((0 : Int) ≤ x0) && decide (x0 < nI (List.length l4)))
 ((go k laws_eqId [(.agg [(.int .i64 (Prod.fst (List.getD l2 (Int.toNat x0) zz3))), (.int .i64 (Prod.fst (Prod.snd (List.getD l2 (Int.toNat x0) zz3)))), (.int .i64 (Prod.snd (Prod.snd (List.getD l2 (Int.toNat x0) zz3))))]), (.agg [(.int .i64 (Prod.fst (List.getD l4 (Int.toNat x0) zz3))), (.int .i64 (Prod.fst (Prod.snd (List.getD l4 (Int.toNat x0) zz3)))), (.int .i64 (Prod.snd (Prod.snd (List.getD l4 (Int.toNat x0) zz3))))])]).bind fun r0 =>
 cond (!bit (nth r0 0))
 (some [(.bool (false))])
 (lp k laws_eqIdS [] fu 4 n (qhv (IntKind.wrap .i64 (x0 + (1 : Int))) z1 l2 z3 l4)))
 (none))
 (none))
 (some [(.bool (true))]) := by kernel_rfl
theorem qdo (k : Nat) (a0 : Int) (a1z : Bool) (a1 : List (Int × Int × Int)) (b0 : Int) (b1z : Bool) (b1 : List (Int × Int × Int)) : go (k + 1) laws_eqMesh [(.agg [(.int .i64 (a0)), (.arr false (a1z) (.r3 (a1)))]), (.agg [(.int .i64 (b0)), (.arr false (b1z) (.r3 (b1)))])] =
 cond (!decide (a0 = b0))
 (some [(.bool (false))])
 ((go k laws_eqIdS [(.arr false (a1z) (.r3 (a1))), (.arr false (b1z) (.r3 (b1)))]).bind fun r0 =>
 cond (!bit (nth r0 0))
 (some [(.bool (false))])
 (some [(.bool (true))])) := by kernel_rfl
def qhz (x0 x1 : Int) (z2 : Bool) (l3 : List (Int × Int × Int)) : St := ⟨fill 34 [(0, (.sl 0 none)), (1, (.int .i64 (x0))), (5, (.int .i64 (x1)))], [(.sl 0 none)], [(.arr true (z2) (.r3 (l3)))]⟩
theorem qds (k : Nat) (az : Bool) (a : List (Int × Int × Int)) (b : Int) : go (k + 1) laws_markIdS [(.arr true (az) (.r3 (a))), (.int .i64 (b))] =
 lp k laws_markIdS [(.arr true (az) (.r3 (a)))] [] 2 k (qhz b (0 : Int) az a) := by kernel_rfl
theorem qfd (k n : Nat) (fu : List (Nat × Nat)) (az : Bool) (a : List (Int × Int × Int)) (x0 x1 : Int) (z2 : Bool) (l3 : List (Int × Int × Int)) : lp k laws_markIdS [(.arr true (az) (.r3 (a)))] fu 2 (n + 1) (qhz x0 x1 z2 l3) =
 cond (decide (x1 < nI (List.length l3)))
 (cond (decide ((0 : Int) ≤ x1) && decide (x1 < nI (List.length l3)))
 (cond (decide ((0 : Int) ≤ x1) && decide (x1 < nI (List.length (List.set l3 (Int.toNat x1) (x0, Prod.fst (Prod.snd (List.getD l3 (Int.toNat x1) zz3)), Prod.snd (Prod.snd (List.getD l3 (Int.toNat x1) zz3)))))))
 (cond (decide ((0 : Int) ≤ x1) && decide (x1 < nI (List.length (List.set (List.set l3 (Int.toNat x1) (x0, Prod.fst (Prod.snd (List.getD l3 (Int.toNat x1) zz3)), Prod.snd (Prod.snd (List.getD l3 (Int.toNat x1) zz3)))) (Int.toNat x1) (Prod.fst (List.getD (List.set l3 (Int.toNat x1) (x0, Prod.fst (Prod.snd (List.getD l3 (Int.toNat x1) zz3)), Prod.snd (Prod.snd (List.getD l3 (Int.toNat x1) zz3)))) (Int.toNat x1) zz3), IntKind.wrap .i64 (x0 + (1 : Int)), Prod.snd (Prod.snd (List.getD (List.set l3 (Int.toNat x1) (x0, Prod.fst (Prod.snd (List.getD l3 (Int.toNat x1) zz3)), Prod.snd (Prod.snd (List.getD l3 (Int.toNat x1) zz3)))) (Int.toNat x1) zz3)))))))
 (lp k laws_markIdS [(.arr true (az) (.r3 (a)))] fu 2 n (qhz (IntKind.wrap .i64 (IntKind.wrap .i64 (IntKind.wrap .i64 (x0 + (1 : Int)) + (1 : Int)) + (1 : Int))) (IntKind.wrap .i64 (x1 + (1 : Int))) z2 (List.set (List.set (List.set l3 (Int.toNat x1) (x0, Prod.fst (Prod.snd (List.getD l3 (Int.toNat x1) zz3)), Prod.snd (Prod.snd (List.getD l3 (Int.toNat x1) zz3)))) (Int.toNat x1) (Prod.fst (List.getD (List.set l3 (Int.toNat x1) (x0, Prod.fst (Prod.snd (List.getD l3 (Int.toNat x1) zz3)), Prod.snd (Prod.snd (List.getD l3 (Int.toNat x1) zz3)))) (Int.toNat x1) zz3), IntKind.wrap .i64 (x0 + (1 : Int)), Prod.snd (Prod.snd (List.getD (List.set l3 (Int.toNat x1) (x0, Prod.fst (Prod.snd (List.getD l3 (Int.toNat x1) zz3)), Prod.snd (Prod.snd (List.getD l3 (Int.toNat x1) zz3)))) (Int.toNat x1) zz3)))) (Int.toNat x1) (Prod.fst (List.getD (List.set (List.set l3 (Int.toNat x1) (x0, Prod.fst (Prod.snd (List.getD l3 (Int.toNat x1) zz3)), Prod.snd (Prod.snd (List.getD l3 (Int.toNat x1) zz3)))) (Int.toNat x1) (Prod.fst (List.getD (List.set l3 (Int.toNat x1) (x0, Prod.fst (Prod.snd (List.getD l3 (Int.toNat x1) zz3)), Prod.snd (Prod.snd (List.getD l3 (Int.toNat x1) zz3)))) (Int.toNat x1) zz3), IntKind.wrap .i64 (x0 + (1 : Int)), Prod.snd (Prod.snd (List.getD (List.set l3 (Int.toNat x1) (x0, Prod.fst (Prod.snd (List.getD l3 (Int.toNat x1) zz3)), Prod.snd (Prod.snd (List.getD l3 (Int.toNat x1) zz3)))) (Int.toNat x1) zz3)))) (Int.toNat x1) zz3), Prod.fst (Prod.snd (List.getD (List.set (List.set l3 (Int.toNat x1) (x0, Prod.fst (Prod.snd (List.getD l3 (Int.toNat x1) zz3)), Prod.snd (Prod.snd (List.getD l3 (Int.toNat x1) zz3)))) (Int.toNat x1) (Prod.fst (List.getD (List.set l3 (Int.toNat x1) (x0, Prod.fst (Prod.snd (List.getD l3 (Int.toNat x1) zz3)), Prod.snd (Prod.snd (List.getD l3 (Int.toNat x1) zz3)))) (Int.toNat x1) zz3), IntKind.wrap .i64 (x0 + (1 : Int)), Prod.snd (Prod.snd (List.getD (List.set l3 (Int.toNat x1) (x0, Prod.fst (Prod.snd (List.getD l3 (Int.toNat x1) zz3)), Prod.snd (Prod.snd (List.getD l3 (Int.toNat x1) zz3)))) (Int.toNat x1) zz3)))) (Int.toNat x1) zz3)), IntKind.wrap .i64 (IntKind.wrap .i64 (x0 + (1 : Int)) + (1 : Int))))))
 (none))
 (none))
 (none))
 (some [(.int .i64 (x0)), (.arr true (z2) (.r3 (l3)))]) := by kernel_rfl
def qh3 (x0 : Int) (z1 : Bool) (l2 : List Int) (z3 : Bool) (l4 : List Int) : St := ⟨fill 22 [(0, (.sl 0 none)), (3, (.sl 1 none)), (4, (.int .i64 (x0)))], [], [(.arr false (z1) (.ints .i64 (l2))), (.arr true (z3) (.ints .i64 (l4)))]⟩
theorem qd1 (k : Nat) (az : Bool) (a : List Int) : go (k + 1) laws_toIntS [(.arr false (az) (.ints .i64 (a)))] =
 cond (decide ((0 : Int) ≤ nI (List.length a)) && decide (nI (List.length a) ≤ nI (List.length a)) && decide (nI (List.length a) ≤ nI bigLen))
 (lp k laws_toIntS [] [] 3 k (qh3 (0 : Int) az a false (List.replicate (Int.toNat (nI (List.length a))) (0 : Int))))
 (none) := by kernel_rfl
theorem qfh (k n : Nat) (fu : List (Nat × Nat)) (x0 : Int) (z1 : Bool) (l2 : List Int) (z3 : Bool) (l4 : List Int) : lp k laws_toIntS [] fu 3 (n + 1) (qh3 x0 z1 l2 z3 l4) =
 cond (decide (x0 < nI (List.length l2)))
 (cond (decide ((0 : Int) ≤ x0) && decide (x0 < nI (List.length l2)))
 (cond (decide ((0 : Int) ≤ x0) && decide (x0 < nI (List.length l4)))
 (lp k laws_toIntS [] fu 3 n (qh3 (IntKind.wrap .i64 (x0 + (1 : Int))) z1 l2 z3 (List.set l4 (Int.toNat x0) (List.getD l2 (Int.toNat x0) (0 : Int)))))
 (none))
 (none))
 (some [(.arr true (z3) (.ints .i64 (l4)))]) := by kernel_rfl
theorem qdv (k : Nat) (az : Bool) (a : List Int) (b : Int) : go (k + 1) laws_szIntS [(.arr false (az) (.ints .i64 (a))), (.int .i64 (b))] =
 cond (decide (IntKind.wrap .i64 (b - nI (List.length a)) < (0 : Int)))
 (some [(.int .i64 ((-1 : Int)))])
 (some [(.int .i64 (IntKind.wrap .i64 (b - nI (List.length a))))]) := by kernel_rfl
def qhw (x0 : Int) (z1 : Bool) (l2 : List Int) (z3 : Bool) (l4 : List Int) : St := ⟨fill 26 [(0, (.sl 0 none)), (1, (.sl 1 none)), (5, (.int .i64 (x0)))], [], [(.arr false (z1) (.ints .i64 (l2))), (.arr false (z3) (.ints .i64 (l4)))]⟩
theorem qdn (k : Nat) (az : Bool) (a : List Int) (bz : Bool) (b : List Int) : go (k + 1) laws_eqIntS [(.arr false (az) (.ints .i64 (a))), (.arr false (bz) (.ints .i64 (b)))] =
 cond (!decide (nI (List.length a) = nI (List.length b)))
 (some [(.bool (false))])
 (lp k laws_eqIntS [] [] 4 k (qhw (0 : Int) az a bz b)) := by kernel_rfl
theorem qfa (k n : Nat) (fu : List (Nat × Nat)) (x0 : Int) (z1 : Bool) (l2 : List Int) (z3 : Bool) (l4 : List Int) : lp k laws_eqIntS [] fu 4 (n + 1) (qhw x0 z1 l2 z3 l4) =
 cond (decide (x0 < nI (List.length l2)))
 (cond (decide ((0 : Int) ≤ x0) && decide (x0 < nI (List.length l2)))
 (cond (decide ((0 : Int) ≤ x0) && decide (x0 < nI (List.length l4)))
 (cond (!decide (List.getD l2 (Int.toNat x0) (0 : Int) = List.getD l4 (Int.toNat x0) (0 : Int)))
 (some [(.bool (false))])
 (lp k laws_eqIntS [] fu 4 n (qhw (IntKind.wrap .i64 (x0 + (1 : Int))) z1 l2 z3 l4)))
 (none))
 (none))
 (some [(.bool (true))]) := by kernel_rfl
def qh0 (x0 x1 : Int) (z2 : Bool) (l3 : List Int) : St := ⟨fill 19 [(0, (.sl 0 none)), (1, (.int .i64 (x0))), (5, (.int .i64 (x1)))], [(.sl 0 none)], [(.arr true (z2) (.ints .i64 (l3)))]⟩
theorem qdt (k : Nat) (az : Bool) (a : List Int) (b : Int) : go (k + 1) laws_markIntS [(.arr true (az) (.ints .i64 (a))), (.int .i64 (b))] =
 lp k laws_markIntS [(.arr true (az) (.ints .i64 (a)))] [] 2 k (qh0 b (0 : Int) az a) := by kernel_rfl
theorem qfe (k n : Nat) (fu : List (Nat × Nat)) (az : Bool) (a : List Int) (x0 x1 : Int) (z2 : Bool) (l3 : List Int) : lp k laws_markIntS [(.arr true (az) (.ints .i64 (a)))] fu 2 (n + 1) (qh0 x0 x1 z2 l3) =
 cond (decide (x1 < nI (List.length l3)))
 (cond (decide ((0 : Int) ≤ x1) && decide (x1 < nI (List.length l3)))
 (lp k laws_markIntS [(.arr true (az) (.ints .i64 (a)))] fu 2 n (qh0 (IntKind.wrap .i64 (x0 + (1 : Int))) (IntKind.wrap .i64 (x1 + (1 : Int))) z2 (List.set l3 (Int.toNat x1) x0)))
 (none))
 (some [(.int .i64 (x0)), (.arr true (z2) (.ints .i64 (l3)))]) := by kernel_rfl
def qhy (x0 x1 : Int) (z2 : Bool) (l3 : List Int) : St := ⟨fill 21 [(0, (.sl 0 none)), (1, (.int .i64 (x0))), (5, (.int .i64 (x1)))], [], [(.arr false (z2) (.ints .i64 (l3)))]⟩
theorem qdr (k : Nat) (az : Bool) (a : List Int) (b : Int) : go (k + 1) laws_heldIntS [(.arr false (az) (.ints .i64 (a))), (.int .i64 (b))] =
 lp k laws_heldIntS [] [] 2 k (qhy b (0 : Int) az a) := by kernel_rfl
theorem qfc (k n : Nat) (fu : List (Nat × Nat)) (x0 x1 : Int) (z2 : Bool) (l3 : List Int) : lp k laws_heldIntS [] fu 2 (n + 1) (qhy x0 x1 z2 l3) =
 cond (decide (x1 < nI (List.length l3)))
 (cond (decide ((0 : Int) ≤ x1) && decide (x1 < nI (List.length l3)))
 (cond (!decide (List.getD l3 (Int.toNat x1) (0 : Int) = x0))
 (some [(.int .i64 ((-1 : Int)))])
 (lp k laws_heldIntS [] fu 2 n (qhy (IntKind.wrap .i64 (x0 + (1 : Int))) (IntKind.wrap .i64 (x1 + (1 : Int))) z2 l3)))
 (none))
 (some [(.int .i64 (x0))]) := by kernel_rfl

end Go.Proofs.Ytcaapedadpnjoaa
end
section
namespace Go.Proofs.Ytcaapedadpnjoaa
open Go.Ev
theorem qei (k : Nat) (a b c : Int) : go (k + 1) spec_l01In [(.int .i64 (a)), (.int .i64 (b)), (.int .i64 (c))] =
 cond (decide (b ≤ a))
 (some [(.bool (decide (a ≤ c)))])
 (some [(.bool (false))]) := by kernel_rfl
theorem qdk (k : Nat) (a b c : Int) : go (k + 1) impl_within [(.int .i64 (a)), (.int .i64 (b)), (.int .i64 (c))] =
 cond (decide (b ≤ a))
 (some [(.bool (decide (a ≤ c)))])
 (some [(.bool (false))]) := by kernel_rfl
theorem qdi (k : Nat) (a : Int) : go (k + 1) impl_isLevel [(.int .i64 (a))] =
 (go k impl_within [(.int .i64 (a)), (.int .i64 (0 : Int)), (.int .i64 ((4 : Int)))]).bind fun r0 =>
 some [(.bool (bit (nth r0 0)))] := by kernel_rfl
theorem qeb (k : Nat) (a0 a1 a2 : Int) : go (k + 1) spec_IdOk [(.agg [(.int .i64 (a0)), (.int .i64 (a1)), (.int .i64 (a2))])] =
 (go k spec_l01In [(.int .i64 (a0)), (.int .i64 (0 : Int)), (.int .i64 ((7 : Int)))]).bind fun r0 =>
 cond (bit (nth r0 0))
 ((go k spec_l01In [(.int .i64 (a1)), (.int .i64 (0 : Int)), (.int .i64 ((4 : Int)))]).bind fun r1 =>
 cond (bit (nth r1 0))
 (cond (decide ((0 : Int) ≤ a2))
 (cond (decide ((0 : Int) ≤ IntKind.wrap IntKind.u64 a1))
 (some [(.bool (decide (a2 < IntKind.wrap .i64 ((1 : Int) * (2 : Int) ^ shiftN .i64 (IntKind.wrap IntKind.u64 a1)))))])
 (none))
 (some [(.bool (false))]))
 (some [(.bool (false))]))
 (some [(.bool (false))]) := by kernel_rfl
theorem qc5 (k : Nat) (a0 a1 a2 : Int) : go (k + 1) impl_IdOk [(.agg [(.int .i64 (a0)), (.int .i64 (a1)), (.int .i64 (a2))])] =
 (go k impl_within [(.int .i64 (a0)), (.int .i64 (0 : Int)), (.int .i64 ((7 : Int)))]).bind fun r0 =>
 cond (bit (nth r0 0))
 ((go k impl_isLevel [(.int .i64 (a1))]).bind fun r1 =>
 cond (bit (nth r1 0))
 (cond (decide ((0 : Int) ≤ a1))
 ((go k impl_within [(.int .i64 (a2)), (.int .i64 (0 : Int)), (.int .i64 (IntKind.wrap .i64 (IntKind.wrap .i64 ((1 : Int) * (2 : Int) ^ shiftN .i64 a1) - (1 : Int))))]).bind fun r2 =>
 some [(.bool (bit (nth r2 0)))])
 (none))
 (some [(.bool (false))]))
 (some [(.bool (false))]) := by kernel_rfl
theorem qeh (k : Nat) (a : Int) : go (k + 1) spec_WidthOf [(.int .i64 (a))] =
 (go k spec_l01In [(.int .i64 (a)), (.int .i64 (0 : Int)), (.int .i64 ((4 : Int)))]).bind fun r0 =>
 cond (!bit (nth r0 0))
 (some [(.int .i64 (0 : Int))])
 (cond (decide ((0 : Int) ≤ IntKind.wrap IntKind.u64 a))
 (some [(.int .i64 (Int.fdiv (16 : Int) ((2 : Int) ^ shiftN .i64 (IntKind.wrap IntKind.u64 a))))])
 (none)) := by kernel_rfl
theorem qde (k : Nat) (a : Int) : go (k + 1) impl_WidthOf [(.int .i64 (a))] =
 (go k impl_isLevel [(.int .i64 (a))]).bind fun r0 =>
 cond (!bit (nth r0 0))
 (some [(.int .i64 (0 : Int))])
 (cond (decide ((0 : Int) ≤ a))
 (some [(.int .i64 (Int.fdiv (16 : Int) ((2 : Int) ^ shiftN .i64 a)))])
 (none)) := by kernel_rfl
theorem qef (k : Nat) (a0 a1 a2 : Int) : go (k + 1) spec_StartOf [(.agg [(.int .i64 (a0)), (.int .i64 (a1)), (.int .i64 (a2))])] =
 (go k spec_IdOk [(.agg [(.int .i64 (a0)), (.int .i64 (a1)), (.int .i64 (a2))])]).bind fun r0 =>
 cond (!bit (nth r0 0))
 (some [(.int .i64 ((-1 : Int)))])
 ((go k spec_WidthOf [(.int .i64 (a1))]).bind fun r1 =>
 some [(.int .i64 (IntKind.wrap .i64 (IntKind.wrap .i64 (a0 * (16 : Int)) + IntKind.wrap .i64 (a2 * D.toInt (nth r1 0)))))]) := by kernel_rfl
theorem qda (k : Nat) (a0 a1 a2 : Int) : go (k + 1) impl_StartOf [(.agg [(.int .i64 (a0)), (.int .i64 (a1)), (.int .i64 (a2))])] =
 (go k impl_IdOk [(.agg [(.int .i64 (a0)), (.int .i64 (a1)), (.int .i64 (a2))])]).bind fun r0 =>
 cond (!bit (nth r0 0))
 (some [(.int .i64 ((-1 : Int)))])
 ((go k impl_WidthOf [(.int .i64 (a1))]).bind fun r1 =>
 some [(.int .i64 (IntKind.wrap .i64 (IntKind.wrap .i64 (a0 * (16 : Int)) + IntKind.wrap .i64 (a2 * D.toInt (nth r1 0)))))]) := by kernel_rfl
theorem qej (k : Nat) (a0 a1 a2 : Int) : go (k + 1) spec_l04End [(.agg [(.int .i64 (a0)), (.int .i64 (a1)), (.int .i64 (a2))])] =
 (go k spec_StartOf [(.agg [(.int .i64 (a0)), (.int .i64 (a1)), (.int .i64 (a2))])]).bind fun r0 =>
 (go k spec_WidthOf [(.int .i64 (a1))]).bind fun r1 =>
 some [(.int .i64 (IntKind.wrap .i64 (D.toInt (nth r0 0) + D.toInt (nth r1 0))))] := by kernel_rfl
theorem qdg (k : Nat) (a0 a1 a2 : Int) : go (k + 1) impl_endOf [(.agg [(.int .i64 (a0)), (.int .i64 (a1)), (.int .i64 (a2))])] =
 (go k impl_StartOf [(.agg [(.int .i64 (a0)), (.int .i64 (a1)), (.int .i64 (a2))])]).bind fun r0 =>
 (go k impl_WidthOf [(.int .i64 (a1))]).bind fun r1 =>
 some [(.int .i64 (IntKind.wrap .i64 (D.toInt (nth r0 0) + D.toInt (nth r1 0))))] := by kernel_rfl
def qh9 (x0 x1 : Int) (z2 : Bool) (l3 : List (Int × Int × Int)) (x4 : Int) : St := ⟨fill 45 [(1, (.ptr 1 (0) (0))), (3, (.int .i64 (x0))), (4, (.int .i64 (x1)))], [], [(.arr false (z2) (.r3 (l3))), (.box true [(.int .i64 (x4)), (.sl 0 none)])]⟩
theorem qed (k : Nat) (a0 : Int) (a1z : Bool) (a1 : List (Int × Int × Int)) : go (k + 1) spec_MeshOk [(.agg [(.int .i64 (a0)), (.arr false (a1z) (.r3 (a1)))])] =
 lp k spec_MeshOk [] [] 3 k (qh9 (0 : Int) (0 : Int) a1z a1 a0) := by kernel_rfl
theorem qfn (k n : Nat) (fu : List (Nat × Nat)) (x0 x1 : Int) (z2 : Bool) (l3 : List (Int × Int × Int)) (x4 : Int) : lp k spec_MeshOk [] fu 3 (n + 1) (qh9 x0 x1 z2 l3 x4) =
 cond (decide (x1 < nI (List.length l3)))
 (cond (decide ((0 : Int) ≤ x1) && decide (x1 < nI (List.length l3)))
 ((go k spec_IdOk [(.agg [(.int .i64 (Prod.fst (List.getD l3 (Int.toNat x1) zz3))), (.int .i64 (Prod.fst (Prod.snd (List.getD l3 (Int.toNat x1) zz3)))), (.int .i64 (Prod.snd (Prod.snd (List.getD l3 (Int.toNat x1) zz3))))])]).bind fun r0 =>
 cond (!bit (nth r0 0))
 (some [(.bool (false))])
 (cond (decide ((0 : Int) ≤ x1) && decide (x1 < nI (List.length l3)))
 ((go k spec_StartOf [(.agg [(.int .i64 (Prod.fst (List.getD l3 (Int.toNat x1) zz3))), (.int .i64 (Prod.fst (Prod.snd (List.getD l3 (Int.toNat x1) zz3)))), (.int .i64 (Prod.snd (Prod.snd (List.getD l3 (Int.toNat x1) zz3))))])]).bind fun r1 =>
 cond (!decide (D.toInt (nth r1 0) = x0))
 (some [(.bool (false))])
 (cond (decide ((0 : Int) ≤ x1) && decide (x1 < nI (List.length l3)))
 ((go k spec_l04End [(.agg [(.int .i64 (Prod.fst (List.getD l3 (Int.toNat x1) zz3))), (.int .i64 (Prod.fst (Prod.snd (List.getD l3 (Int.toNat x1) zz3)))), (.int .i64 (Prod.snd (Prod.snd (List.getD l3 (Int.toNat x1) zz3))))])]).bind fun r2 =>
 lp k spec_MeshOk [] fu 3 n (qh9 (D.toInt (nth r2 0)) (IntKind.wrap .i64 (x1 + (1 : Int))) z2 l3 x4))
 (none)))
 (none)))
 (none))
 ((go k spec_l01In [(.int .i64 (x4)), (.int .i64 ((1 : Int))), (.int .i64 ((8 : Int)))]).bind fun r3 =>
 cond (bit (nth r3 0))
 (some [(.bool (decide (x0 = IntKind.wrap .i64 (x4 * (16 : Int)))))])
 (some [(.bool (false))])) := by kernel_rfl
def qhr (x0 x1 x2 : Int) (z3 : Bool) (l4 : List (Int × Int × Int)) (x5 : Int) : St := ⟨fill 35 [(1, (.ptr 1 (0) (0))), (3, (.int .i64 (x0))), (7, (.sl 0 none)), (8, (.int .i64 (x1))), (9, (.int .i64 (x2)))], [], [(.arr false (z3) (.r3 (l4))), (.box true [(.int .i64 (x5)), (.sl 0 none)])]⟩
theorem qc7 (k : Nat) (a0 : Int) (a1z : Bool) (a1 : List (Int × Int × Int)) : go (k + 1) impl_MeshOk [(.agg [(.int .i64 (a0)), (.arr false (a1z) (.r3 (a1)))])] =
 lp k impl_MeshOk [] [] 3 k (qhr (0 : Int) (nI (List.length a1)) (0 : Int) a1z a1 a0) := by kernel_rfl
theorem qe5 (k n : Nat) (fu : List (Nat × Nat)) (x0 x1 x2 : Int) (z3 : Bool) (l4 : List (Int × Int × Int)) (x5 : Int) : lp k impl_MeshOk [] fu 3 (n + 1) (qhr x0 x1 x2 z3 l4 x5) =
 cond (decide (x2 < x1))
 (cond (decide ((0 : Int) ≤ x2) && decide (x2 < nI (List.length l4)))
 ((go k impl_IdOk [(.agg [(.int .i64 (Prod.fst (List.getD l4 (Int.toNat x2) zz3))), (.int .i64 (Prod.fst (Prod.snd (List.getD l4 (Int.toNat x2) zz3)))), (.int .i64 (Prod.snd (Prod.snd (List.getD l4 (Int.toNat x2) zz3))))])]).bind fun r0 =>
 cond (!bit (nth r0 0))
 (some [(.bool (false))])
 ((go k impl_StartOf [(.agg [(.int .i64 (Prod.fst (List.getD l4 (Int.toNat x2) zz3))), (.int .i64 (Prod.fst (Prod.snd (List.getD l4 (Int.toNat x2) zz3)))), (.int .i64 (Prod.snd (Prod.snd (List.getD l4 (Int.toNat x2) zz3))))])]).bind fun r1 =>
 cond (!decide (D.toInt (nth r1 0) = x0))
 (some [(.bool (false))])
 ((go k impl_endOf [(.agg [(.int .i64 (Prod.fst (List.getD l4 (Int.toNat x2) zz3))), (.int .i64 (Prod.fst (Prod.snd (List.getD l4 (Int.toNat x2) zz3)))), (.int .i64 (Prod.snd (Prod.snd (List.getD l4 (Int.toNat x2) zz3))))])]).bind fun r2 =>
 lp k impl_MeshOk [] fu 3 n (qhr (D.toInt (nth r2 0)) x1 (IntKind.wrap .i64 (x2 + (1 : Int))) z3 l4 x5))))
 (none))
 ((go k impl_within [(.int .i64 (x5)), (.int .i64 ((1 : Int))), (.int .i64 ((8 : Int)))]).bind fun r3 =>
 cond (bit (nth r3 0))
 (some [(.bool (decide (x0 = IntKind.wrap .i64 (x5 * (16 : Int)))))])
 (some [(.bool (false))])) := by kernel_rfl
def qid (x0 : Int) (z1 : Bool) (l2 : List (Int × Int × Int)) (x3 : Int) : St := ⟨fill 34 [(1, (.ptr 1 (0) (0))), (3, (.int .i64 (x0)))], [], [(.arr false (z1) (.r3 (l2))), (.box true [(.int .i64 (x3)), (.sl 0 none)])]⟩
theorem qek (k : Nat) (a0 : Int) (a1z : Bool) (a1 : List (Int × Int × Int)) : go (k + 1) spec_l05First [(.agg [(.int .i64 (a0)), (.arr false (a1z) (.r3 (a1)))])] =
 lp k spec_l05First [] [] 2 k (qid (0 : Int) a1z a1 a0) := by kernel_rfl
theorem qfr (k n : Nat) (fu : List (Nat × Nat)) (x0 : Int) (z1 : Bool) (l2 : List (Int × Int × Int)) (x3 : Int) : lp k spec_l05First [] fu 2 (n + 1) (qid x0 z1 l2 x3) =
 cond (decide (IntKind.wrap .i64 (x0 + (1 : Int)) < nI (List.length l2)))
 (cond (decide ((0 : Int) ≤ x0) && decide (x0 < nI (List.length l2)))
 (cond (decide ((0 : Int) ≤ IntKind.wrap .i64 (x0 + (1 : Int))) && decide (IntKind.wrap .i64 (x0 + (1 : Int)) < nI (List.length l2)))
 (cond (decide ((1 : Int) < IntKind.wrap .i64 (Prod.fst (Prod.snd (List.getD l2 (Int.toNat x0) zz3)) - Prod.fst (Prod.snd (List.getD l2 (Int.toNat (IntKind.wrap .i64 (x0 + (1 : Int)))) zz3)))))
 (some [(.int .i64 (x0))])
 (cond (decide (IntKind.wrap .i64 (Prod.fst (Prod.snd (List.getD l2 (Int.toNat x0) zz3)) - Prod.fst (Prod.snd (List.getD l2 (Int.toNat (IntKind.wrap .i64 (x0 + (1 : Int)))) zz3))) < (-1 : Int)))
 (some [(.int .i64 (x0))])
 (lp k spec_l05First [] fu 2 n (qid (IntKind.wrap .i64 (x0 + (1 : Int))) z1 l2 x3))))
 (none))
 (none))
 (some [(.int .i64 ((-1 : Int)))]) := by kernel_rfl
def qhs (x0 x1 : Int) (z2 : Bool) (l3 : List (Int × Int × Int)) (x4 : Int) : St := ⟨fill 29 [(1, (.ptr 1 (0) (0))), (7, (.int .i64 (x0))), (8, (.int .i64 (x1)))], [], [(.arr false (z2) (.r3 (l3))), (.box true [(.int .i64 (x4)), (.sl 0 none)])]⟩
theorem qc8 (k : Nat) (a0 : Int) (a1z : Bool) (a1 : List (Int × Int × Int)) : go (k + 1) impl_Mesh_unbalanced [(.agg [(.int .i64 (a0)), (.arr false (a1z) (.r3 (a1)))])] =
 lp k impl_Mesh_unbalanced [] [] 2 k (qhs (IntKind.wrap .i64 (nI (List.length a1) - (1 : Int))) (0 : Int) a1z a1 a0) := by kernel_rfl
theorem qe6 (k n : Nat) (fu : List (Nat × Nat)) (x0 x1 : Int) (z2 : Bool) (l3 : List (Int × Int × Int)) (x4 : Int) : lp k impl_Mesh_unbalanced [] fu 2 (n + 1) (qhs x0 x1 z2 l3 x4) =
 cond (decide (x1 < x0))
 (cond (decide ((0 : Int) ≤ x1) && decide (x1 < nI (List.length l3)))
 (cond (decide ((0 : Int) ≤ IntKind.wrap .i64 (x1 + (1 : Int))) && decide (IntKind.wrap .i64 (x1 + (1 : Int)) < nI (List.length l3)))
 ((go k impl_absolute [(.int .i64 (IntKind.wrap .i64 (Prod.fst (Prod.snd (List.getD l3 (Int.toNat x1) zz3)) - Prod.fst (Prod.snd (List.getD l3 (Int.toNat (IntKind.wrap .i64 (x1 + (1 : Int)))) zz3)))))]).bind fun r0 =>
 cond (decide ((1 : Int) < D.toInt (nth r0 0)))
 (some [(.int .i64 (x1))])
 (lp k impl_Mesh_unbalanced [] fu 2 n (qhs x0 (IntKind.wrap .i64 (x1 + (1 : Int))) z2 l3 x4)))
 (none))
 (none))
 (some [(.int .i64 ((-1 : Int)))]) := by kernel_rfl
theorem qdf (k : Nat) (a : Int) : go (k + 1) impl_absolute [(.int .i64 (a))] =
 some [(.int .i64 (if IntKind.wrap .i64 ((0 : Int) - a) > a then IntKind.wrap .i64 ((0 : Int) - a) else a))] := by kernel_rfl
theorem qec (k : Nat) (a0 : Int) (a1z : Bool) (a1 : List (Int × Int × Int)) : go (k + 1) spec_IsBalanced [(.agg [(.int .i64 (a0)), (.arr false (a1z) (.r3 (a1)))])] =
 (go k spec_MeshOk [(.agg [(.int .i64 (a0)), (.arr false (a1z) (.r3 (a1)))])]).bind fun r0 =>
 cond (bit (nth r0 0))
 ((go k spec_l05First [(.agg [(.int .i64 (a0)), (.arr false (a1z) (.r3 (a1)))])]).bind fun r1 =>
 some [(.bool (decide (D.toInt (nth r1 0) < (0 : Int))))])
 (some [(.bool (false))]) := by kernel_rfl
theorem qc6 (k : Nat) (a0 : Int) (a1z : Bool) (a1 : List (Int × Int × Int)) : go (k + 1) impl_IsBalanced [(.agg [(.int .i64 (a0)), (.arr false (a1z) (.r3 (a1)))])] =
 (go k impl_MeshOk [(.agg [(.int .i64 (a0)), (.arr false (a1z) (.r3 (a1)))])]).bind fun r0 =>
 cond (bit (nth r0 0))
 ((go k impl_Mesh_unbalanced [(.agg [(.int .i64 (a0)), (.arr false (a1z) (.r3 (a1)))])]).bind fun r1 =>
 some [(.bool (decide (D.toInt (nth r1 0) < (0 : Int))))])
 (some [(.bool (false))]) := by kernel_rfl
theorem qc9 (k : Nat) (a0 : Int) (a1z : Bool) (a1 : List (Int × Int × Int)) (b0 : Int) (b1z : Bool) (b1 : List (Int × Int × Int)) : go (k + 1) impl_SameMesh [(.agg [(.int .i64 (a0)), (.arr false (a1z) (.r3 (a1)))]), (.agg [(.int .i64 (b0)), (.arr false (b1z) (.r3 (b1)))])] =
 cond (decide (a0 = b0))
 ((go k slices_Equal_impl_Id_impl_Id [(.arr false (a1z) (.r3 (a1))), (.arr false (b1z) (.r3 (b1)))]).bind fun r0 =>
 some [(.bool (bit (nth r0 0)))])
 (some [(.bool (false))]) := by kernel_rfl
def qh4 (x0 x1 : Int) (z2 : Bool) (l3 : List (Int × Int × Int)) (z4 : Bool) (l5 : List (Int × Int × Int)) : St := ⟨fill 26 [(0, (.sl 0 none)), (1, (.sl 1 none)), (12, (.int .i64 (x0))), (13, (.int .i64 (x1)))], [], [(.arr false (z2) (.r3 (l3))), (.arr false (z4) (.r3 (l5)))]⟩
theorem qd7 (k : Nat) (az : Bool) (a : List (Int × Int × Int)) (bz : Bool) (b : List (Int × Int × Int)) : go (k + 1) slices_Equal_impl_Id_impl_Id [(.arr false (az) (.r3 (a))), (.arr false (bz) (.r3 (b)))] =
 cond (!decide (nI (List.length a) = nI (List.length b)))
 (some [(.bool (false))])
 (lp k slices_Equal_impl_Id_impl_Id [] [] 4 k (qh4 (nI (List.length a)) (0 : Int) az a bz b)) := by kernel_rfl
theorem qfi (k n : Nat) (fu : List (Nat × Nat)) (x0 x1 : Int) (z2 : Bool) (l3 : List (Int × Int × Int)) (z4 : Bool) (l5 : List (Int × Int × Int)) : lp k slices_Equal_impl_Id_impl_Id [] fu 4 (n + 1) (qh4 x0 x1 z2 l3 z4 l5) =
 cond (decide (x1 < x0))
 (cond (decide ((0 : Int) ≤ x1) && decide (x1 < nI (List.length l3)))
 (cond (decide ((0 : Int) ≤ x1) && decide (x1 < nI (List.length l5)))
 (cond (!(decide (Prod.fst (List.getD l3 (Int.toNat x1) zz3) = Prod.fst (List.getD l5 (Int.toNat x1) zz3)) && (decide (Prod.fst (Prod.snd (List.getD l3 (Int.toNat x1) zz3)) = Prod.fst (Prod.snd (List.getD l5 (Int.toNat x1) zz3))) && (decide (Prod.snd (Prod.snd (List.getD l3 (Int.toNat x1) zz3)) = Prod.snd (Prod.snd (List.getD l5 (Int.toNat x1) zz3))) && true))))
 (some [(.bool (false))])
 (lp k slices_Equal_impl_Id_impl_Id [] fu 4 n (qh4 x0 (IntKind.wrap .i64 (x1 + (1 : Int))) z2 l3 z4 l5)))
 (none))
 (none))
 (some [(.bool (true))]) := by kernel_rfl
def qia (x0 : Int) (z1 : Bool) (l2 : List (Int × Int × Int)) (x3 : Int) (z4 : Bool) (l5 : List (Int × Int × Int)) (x6 : Int) : St := ⟨fill 38 [(2, (.ptr 1 (0) (0))), (3, (.ptr 3 (0) (0))), (5, (.int .i64 (x0)))], [], [(.arr false (z1) (.r3 (l2))), (.box true [(.int .i64 (x3)), (.sl 0 none)]), (.arr false (z4) (.r3 (l5))), (.box true [(.int .i64 (x6)), (.sl 2 none)])]⟩
theorem qee (k : Nat) (a0 : Int) (a1z : Bool) (a1 : List (Int × Int × Int)) (b0 : Int) (b1z : Bool) (b1 : List (Int × Int × Int)) : go (k + 1) spec_SameMesh [(.agg [(.int .i64 (a0)), (.arr false (a1z) (.r3 (a1)))]), (.agg [(.int .i64 (b0)), (.arr false (b1z) (.r3 (b1)))])] =
 cond (!decide (a0 = b0))
 (some [(.bool (false))])
 (cond (!decide (nI (List.length a1) = nI (List.length b1)))
 (some [(.bool (false))])
 (lp k spec_SameMesh [] [] 4 k (qia (0 : Int) a1z a1 a0 b1z b1 b0))) := by kernel_rfl
theorem qfo (k n : Nat) (fu : List (Nat × Nat)) (x0 : Int) (z1 : Bool) (l2 : List (Int × Int × Int)) (x3 : Int) (z4 : Bool) (l5 : List (Int × Int × Int)) (x6 : Int) : lp k spec_SameMesh [] fu 4 (n + 1) (qia x0 z1 l2 x3 z4 l5 x6) =
 cond (decide (x0 < nI (List.length l2)))
 (cond (decide ((0 : Int) ≤ x0) && decide (x0 < nI (List.length l2)))
 (cond (decide ((0 : Int) ≤ x0) && decide (x0 < nI (List.length l5)))
 (cond (!(decide (Prod.fst (List.getD l2 (Int.toNat x0) zz3) = Prod.fst (List.getD l5 (Int.toNat x0) zz3)) && (decide (Prod.fst (Prod.snd (List.getD l2 (Int.toNat x0) zz3)) = Prod.fst (Prod.snd (List.getD l5 (Int.toNat x0) zz3))) && (decide (Prod.snd (Prod.snd (List.getD l2 (Int.toNat x0) zz3)) = Prod.snd (Prod.snd (List.getD l5 (Int.toNat x0) zz3))) && true))))
 (some [(.bool (false))])
 (lp k spec_SameMesh [] fu 4 n (qia (IntKind.wrap .i64 (x0 + (1 : Int))) z1 l2 x3 z4 l5 x6)))
 (none))
 (none))
 (some [(.bool (true))]) := by kernel_rfl

end Go.Proofs.Ytcaapedadpnjoaa
end
section
namespace Go.Proofs.Ytcaapedadpnjoaa
open Go.Ev
abbrev L3 := List (Int × Int × Int)
abbrev LI := List Int
def sA {α : Type} (f : Bool → L3 → Bool → LI → Bool → LI → Bool → LI → Int → α) (d : D) : α := f (D.nil (D.cell 1 d)) (D.r3 (D.cell 1 d)) (D.nil (D.cell 2 d)) (D.ints (D.cell 2 d)) (D.nil (D.cell 3 d)) (D.ints (D.cell 3 d)) (D.nil (D.cell 4 d)) (D.ints (D.cell 4 d)) (D.toInt (D.cell 0 d))
end Go.Proofs.Ytcaapedadpnjoaa
end
section
namespace Go.Proofs.Ytcaapedadpnjoaa
open Go.Ev
theorem qi9 {x : Int} (h : -9223372036854775808 ≤ x) (h' : x ≤ 9223372036854775807) : IntKind.wrap .i64 x = x := by rw [IntKind.wrap_i64]; omega
theorem qja {x : Int} (h : 0 ≤ x) (h' : x ≤ 9223372036854775807) : IntKind.wrap .u64 x = x := by rw [IntKind.wrap_u64]; omega
theorem nth0 (d0 : D) (l : List D) : nth (d0 :: l) 0 = d0 := Eq.trans rfl rfl
theorem nth1 (d0 d1 : D) (l : List D) : nth (d0 :: d1 :: l) 1 = d1 := Eq.trans rfl rfl
theorem nth2 (d0 d1 d2 : D) (l : List D) : nth (d0 :: d1 :: d2 :: l) 2 = d2 := Eq.trans rfl rfl
theorem nth3 (d0 d1 d2 d3 : D) (l : List D) : nth (d0 :: d1 :: d2 :: d3 :: l) 3 = d3 := Eq.trans rfl rfl
theorem qb3 (d0 : D) (l : List D) : (D.agg (d0 :: l)).cell 0 = d0 := Eq.trans rfl rfl
theorem qb4 (d0 d1 : D) (l : List D) : (D.agg (d0 :: d1 :: l)).cell 1 = d1 := Eq.trans rfl rfl
theorem qcf (d0 d1 d2 : D) (l : List D) : (D.agg (d0 :: d1 :: d2 :: l)).cell 2 = d2 := Eq.trans rfl rfl
theorem qck (d0 d1 d2 d3 : D) (l : List D) : (D.agg (d0 :: d1 :: d2 :: d3 :: l)).cell 3 = d3 := Eq.trans rfl rfl
theorem qcl (d0 d1 d2 d3 d4 : D) (l : List D) : (D.agg (d0 :: d1 :: d2 :: d3 :: d4 :: l)).cell 4 = d4 := Eq.trans rfl rfl
theorem qcm (d0 d1 d2 d3 d4 d5 : D) (l : List D) : (D.agg (d0 :: d1 :: d2 :: d3 :: d4 :: d5 :: l)).cell 5 = d5 := Eq.trans rfl rfl
theorem qcn (d0 d1 d2 d3 d4 d5 d6 : D) (l : List D) : (D.agg (d0 :: d1 :: d2 :: d3 :: d4 :: d5 :: d6 :: l)).cell 6 = d6 := Eq.trans rfl rfl
theorem qco (d0 d1 d2 d3 d4 d5 d6 d7 : D) (l : List D) : (D.agg (d0 :: d1 :: d2 :: d3 :: d4 :: d5 :: d6 :: d7 :: l)).cell 7 = d7 := Eq.trans rfl rfl
theorem qcp (d0 d1 d2 d3 d4 d5 d6 d7 d8 : D) (l : List D) : (D.agg (d0 :: d1 :: d2 :: d3 :: d4 :: d5 :: d6 :: d7 :: d8 :: l)).cell 8 = d8 := Eq.trans rfl rfl
theorem qcq (d0 d1 d2 d3 d4 d5 d6 d7 d8 d9 : D) (l : List D) : (D.agg (d0 :: d1 :: d2 :: d3 :: d4 :: d5 :: d6 :: d7 :: d8 :: d9 :: l)).cell 9 = d9 := Eq.trans rfl rfl
theorem qb5 (d0 d1 d2 d3 d4 d5 d6 d7 d8 d9 d10 : D) (l : List D) : (D.agg (d0 :: d1 :: d2 :: d3 :: d4 :: d5 :: d6 :: d7 :: d8 :: d9 :: d10 :: l)).cell 10 = d10 := Eq.trans rfl rfl
theorem qb6 (d0 d1 d2 d3 d4 d5 d6 d7 d8 d9 d10 d11 : D) (l : List D) : (D.agg (d0 :: d1 :: d2 :: d3 :: d4 :: d5 :: d6 :: d7 :: d8 :: d9 :: d10 :: d11 :: l)).cell 11 = d11 := Eq.trans rfl rfl
theorem qb7 (d0 d1 d2 d3 d4 d5 d6 d7 d8 d9 d10 d11 d12 : D) (l : List D) : (D.agg (d0 :: d1 :: d2 :: d3 :: d4 :: d5 :: d6 :: d7 :: d8 :: d9 :: d10 :: d11 :: d12 :: l)).cell 12 = d12 := Eq.trans rfl rfl
theorem qb8 (d0 d1 d2 d3 d4 d5 d6 d7 d8 d9 d10 d11 d12 d13 : D) (l : List D) : (D.agg (d0 :: d1 :: d2 :: d3 :: d4 :: d5 :: d6 :: d7 :: d8 :: d9 :: d10 :: d11 :: d12 :: d13 :: l)).cell 13 = d13 := Eq.trans rfl rfl
theorem qb9 (d0 d1 d2 d3 d4 d5 d6 d7 d8 d9 d10 d11 d12 d13 d14 : D) (l : List D) : (D.agg (d0 :: d1 :: d2 :: d3 :: d4 :: d5 :: d6 :: d7 :: d8 :: d9 :: d10 :: d11 :: d12 :: d13 :: d14 :: l)).cell 14 = d14 := Eq.trans rfl rfl
theorem qca (d0 d1 d2 d3 d4 d5 d6 d7 d8 d9 d10 d11 d12 d13 d14 d15 : D) (l : List D) : (D.agg (d0 :: d1 :: d2 :: d3 :: d4 :: d5 :: d6 :: d7 :: d8 :: d9 :: d10 :: d11 :: d12 :: d13 :: d14 :: d15 :: l)).cell 15 = d15 := Eq.trans rfl rfl
theorem qcb (d0 d1 d2 d3 d4 d5 d6 d7 d8 d9 d10 d11 d12 d13 d14 d15 d16 : D) (l : List D) : (D.agg (d0 :: d1 :: d2 :: d3 :: d4 :: d5 :: d6 :: d7 :: d8 :: d9 :: d10 :: d11 :: d12 :: d13 :: d14 :: d15 :: d16 :: l)).cell 16 = d16 := Eq.trans rfl rfl
theorem qcc (d0 d1 d2 d3 d4 d5 d6 d7 d8 d9 d10 d11 d12 d13 d14 d15 d16 d17 : D) (l : List D) : (D.agg (d0 :: d1 :: d2 :: d3 :: d4 :: d5 :: d6 :: d7 :: d8 :: d9 :: d10 :: d11 :: d12 :: d13 :: d14 :: d15 :: d16 :: d17 :: l)).cell 17 = d17 := Eq.trans rfl rfl
theorem qcd (d0 d1 d2 d3 d4 d5 d6 d7 d8 d9 d10 d11 d12 d13 d14 d15 d16 d17 d18 : D) (l : List D) : (D.agg (d0 :: d1 :: d2 :: d3 :: d4 :: d5 :: d6 :: d7 :: d8 :: d9 :: d10 :: d11 :: d12 :: d13 :: d14 :: d15 :: d16 :: d17 :: d18 :: l)).cell 18 = d18 := Eq.trans rfl rfl
theorem qce (d0 d1 d2 d3 d4 d5 d6 d7 d8 d9 d10 d11 d12 d13 d14 d15 d16 d17 d18 d19 : D) (l : List D) : (D.agg (d0 :: d1 :: d2 :: d3 :: d4 :: d5 :: d6 :: d7 :: d8 :: d9 :: d10 :: d11 :: d12 :: d13 :: d14 :: d15 :: d16 :: d17 :: d18 :: d19 :: l)).cell 19 = d19 := Eq.trans rfl rfl
theorem qcg (d0 d1 d2 d3 d4 d5 d6 d7 d8 d9 d10 d11 d12 d13 d14 d15 d16 d17 d18 d19 d20 : D) (l : List D) : (D.agg (d0 :: d1 :: d2 :: d3 :: d4 :: d5 :: d6 :: d7 :: d8 :: d9 :: d10 :: d11 :: d12 :: d13 :: d14 :: d15 :: d16 :: d17 :: d18 :: d19 :: d20 :: l)).cell 20 = d20 := Eq.trans rfl rfl
theorem qch (d0 d1 d2 d3 d4 d5 d6 d7 d8 d9 d10 d11 d12 d13 d14 d15 d16 d17 d18 d19 d20 d21 : D) (l : List D) : (D.agg (d0 :: d1 :: d2 :: d3 :: d4 :: d5 :: d6 :: d7 :: d8 :: d9 :: d10 :: d11 :: d12 :: d13 :: d14 :: d15 :: d16 :: d17 :: d18 :: d19 :: d20 :: d21 :: l)).cell 21 = d21 := Eq.trans rfl rfl
theorem qci (d0 d1 d2 d3 d4 d5 d6 d7 d8 d9 d10 d11 d12 d13 d14 d15 d16 d17 d18 d19 d20 d21 d22 : D) (l : List D) : (D.agg (d0 :: d1 :: d2 :: d3 :: d4 :: d5 :: d6 :: d7 :: d8 :: d9 :: d10 :: d11 :: d12 :: d13 :: d14 :: d15 :: d16 :: d17 :: d18 :: d19 :: d20 :: d21 :: d22 :: l)).cell 22 = d22 := Eq.trans rfl rfl
theorem qcj (d0 d1 d2 d3 d4 d5 d6 d7 d8 d9 d10 d11 d12 d13 d14 d15 d16 d17 d18 d19 d20 d21 d22 d23 : D) (l : List D) : (D.agg (d0 :: d1 :: d2 :: d3 :: d4 :: d5 :: d6 :: d7 :: d8 :: d9 :: d10 :: d11 :: d12 :: d13 :: d14 :: d15 :: d16 :: d17 :: d18 :: d19 :: d20 :: d21 :: d22 :: d23 :: l)).cell 23 = d23 := Eq.trans rfl rfl
theorem qix (k : IntKind) (n : Int) : (D.int k n).toInt = n := Eq.trans rfl rfl
theorem qiw (b : Bool) : (D.bool b).toBool = b := Eq.trans rfl rfl
theorem qiy (s : ByteArray) : (D.str s).toStr = s := Eq.trans rfl rfl
theorem qg8 (o n : Bool) (a : Arr) : (D.arr o n a).nil = n := Eq.trans rfl rfl
theorem qhg (o n : Bool) (l : List (Int × Int × Int)) : (D.arr o n (.r3 l)).r3 = l := Eq.trans rfl rfl
theorem qhh (o n : Bool) (l : List (Int × Int × Int × Int)) : (D.arr o n (.r4 l)).r4 = l := Eq.trans rfl rfl
theorem qe0 (o n : Bool) (k : IntKind) (l : List Int) : (D.arr o n (.ints k l)).ints = l := Eq.trans rfl rfl
theorem qai (o n : Bool) (l : List Bool) : (D.arr o n (.bools l)).bools = l := Eq.trans rfl rfl
theorem qiq (o n : Bool) (l : List ByteArray) : (D.arr o n (.strs l)).strs = l := Eq.trans rfl rfl
theorem qcw {α : Type} (x y : α) : cond true x y = x := Eq.trans rfl rfl
theorem qcu {α : Type} (x y : α) : cond false x y = y := Eq.trans rfl rfl
theorem qah {α : Type} (x : List D) (f : List D → Option α) : (some x).bind f = f x := Eq.trans rfl rfl
theorem dT {p : Prop} {i : Decidable p} (h : p) : @decide p i = true := by cases i <;> simp_all
theorem dF {p : Prop} {i : Decidable p} (h : ¬p) : @decide p i = false := by cases i <;> simp_all
theorem qb1 (i : Nat) : (i : Int) + 1 = ((i + 1 : Nat) : Int) := Eq.trans rfl rfl
theorem qb2 (i : Nat) : (i : Int) + 2 = ((i + 2 : Nat) : Int) := Eq.trans rfl rfl
theorem imax (x y : Int) : (if x > y then x else y) = max x y := by by_cases h : x > y <;> simp only [h, if_true, if_false] <;> omega
theorem imin (x y : Int) : (if x < y then x else y) = min x y := by by_cases h : x < y <;> simp only [h, if_true, if_false] <;> omega
theorem qcx (b x : Bool) : cond (!b) (some [D.bool false]) (some [D.bool x]) = some [D.bool (b && x)] := by cases b <;> rfl
theorem qcy (b x : Bool) : cond b (some [D.bool x]) (some [D.bool false]) = some [D.bool (b && x)] := by cases b <;> rfl
theorem dTT {i : Decidable True} : @decide True i = true := by cases i with | isTrue _ => rfl | isFalse h => exact absurd trivial h
theorem dFF {i : Decidable False} : @decide False i = false := by cases i with | isTrue h => exact h.elim | isFalse _ => rfl
theorem bigI : ((bigLen : Nat) : Int) = 1099511627776 := Eq.trans rfl rfl
theorem qg7 {α : Type} (l : List α) : [] ++ l = l := Eq.trans rfl rfl
theorem big0 : bigLen = 1099511627776 := Eq.trans rfl rfl
theorem qcz {α : Type} {l : List α} {i : Nat} (h : i < l.length) (d : α) : l.drop i = l.getD i d :: l.drop (i + 1) := by
  rw [List.drop_eq_getElem_cons h]; simp [h]
theorem qij {α : Type} (l m : List α) (i : Nat) (x : α) (t : List α) (h : i < l.length) : (l.set i x).take (i + 1) ++ t = l.take i ++ (x :: t) := by
  have : (l.set i x).take (i + 1) = l.take i ++ [x] := by
    rw [List.take_succ_eq_append_getElem (by simp; omega)]
    simp [List.take_set_of_le]
  rw [this]; simp
theorem qew {α : Type} {l : List α} {i : Nat} (h : i < l.length) (d : α) : l.getD i d ∈ l := by simp [h]
end Go.Proofs.Ytcaapedadpnjoaa
end
section
namespace Go.Proofs.Ytcaapedadpnjoaa
open Go.Ev
def inR (a b c : Int) : Bool := decide (b ≤ a) && decide (a ≤ c)
theorem qez {a b c : Int} : inR a b c = true ↔ b ≤ a ∧ a ≤ c := by simp [inR]
theorem qbx (k : Nat) (hk : 2000000 ≤ k) (a : Int) (b : Int) (c : Int) : go (k + 1) spec_l01In [(.int .i64 (a)), (.int .i64 (b)), (.int .i64 (c))] = some [.bool (inR a b c)] := by
  rw [qei]; unfold inR; cases decide (b ≤ a) <;> rfl
theorem qa3 (k : Nat) (hk : 2000000 ≤ k) (a : Int) (b : Int) (c : Int) : go (k + 1) impl_within [(.int .i64 (a)), (.int .i64 (b)), (.int .i64 (c))] = some [.bool (inR a b c)] := by
  rw [qdk]; unfold inR; cases decide (b ≤ a) <;> rfl
def pow2 (l : Int) : Int := 2 ^ l.toNat
def idOk (r l i : Int) : Bool := inR r 0 7 && (inR l 0 4 && (decide (0 ≤ i) && decide (i < pow2 l)))
theorem lev {l : Int} (h : inR l 0 4 = true) : l = 0 ∨ l = 1 ∨ l = 2 ∨ l = 3 ∨ l = 4 := by
  simp only [inR, Bool.and_eq_true, decide_eq_true_eq] at h; omega
theorem p20 : pow2 0 = 1 := rfl
theorem p21 : pow2 1 = 2 := rfl
theorem p22 : pow2 2 = 4 := rfl
theorem p23 : pow2 3 = 8 := rfl
theorem p24 : pow2 4 = 16 := rfl
theorem sh0 : shiftN .i64 0 = 0 := by decide
theorem sh1 : shiftN .i64 1 = 1 := by decide
theorem sh2 : shiftN .i64 2 = 2 := by decide
theorem sh3 : shiftN .i64 3 = 3 := by decide
theorem sh4 : shiftN .i64 4 = 4 := by decide
theorem pw {l : Int} (h : inR l 0 4 = true) : IntKind.wrap .i64 ((1 : Int) * (2 : Int) ^ shiftN .i64 l) = pow2 l := by
  rcases lev h with rfl | rfl | rfl | rfl | rfl <;> simp [sh0, sh1, sh2, sh3, sh4, qi9, p20, p21, p22, p23, p24]
theorem lev0 {l : Int} (h : inR l 0 4 = true) : 0 ≤ l ∧ l ≤ 4 := by
  simp only [inR, Bool.and_eq_true, decide_eq_true_eq] at h; omega
theorem qhf {l : Int} (h : inR l 0 4 = true) : 1 ≤ pow2 l ∧ pow2 l ≤ 16 := by
  rcases lev h with rfl | rfl | rfl | rfl | rfl <;> simp [p20, p21, p22, p23, p24]
theorem qbq (k : Nat) (hk : 2000000 ≤ k) (a0 : Int) (a1 : Int) (a2 : Int) : go (k + 2) spec_IdOk [(.agg [(.int .i64 (a0)), (.int .i64 (a1)), (.int .i64 (a2))])] = some [.bool (idOk a0 a1 a2)] := by
  rw [qeb]
  simp (disch := omega) only [qah, nth0, nth1, nth2, nth3, bit, qb3, qb4, qcf, qck, qcl, qcm, qcn, qco, qcp, qcq, qb5, qb6, qb7, qb8, qb9, qca, qcb, qcc, qcd, qce, qcg, qch, qci, qcj, qix, qiw, qiy, qg8, qhg, qhh, qe0, qai, qiq, nI, qcw, qcu, Bool.not_true, Bool.not_false, Bool.and_true, Bool.true_and, Bool.and_false, Bool.false_and, Bool.or_true, Bool.true_or, Bool.or_false, Bool.false_or, beq_self_eq_true, dTT, dFF, dT, dF, bigI, big0, qg7, qi9, qja, List.length_set, List.length_replicate, Int.toNat_natCast, qb1, qb2, imax, imin, qbx]
  unfold idOk
  cases h1 : inR a0 0 7 <;> cases h2 : inR a1 0 4 <;> simp only [qcw, qcu, Bool.true_and, Bool.false_and, Bool.and_false]
  have := lev0 h2
  rw [qja (x := a1) (by omega) (by omega), pw h2]
  by_cases h3 : (0 : Int) ≤ a2
  · simp [h3, this.1]
  · simp [h3]
theorem qa0 (k : Nat) (hk : 2000000 ≤ k) (a : Int) : go (k + 2) impl_isLevel [(.int .i64 (a))] = some [.bool (inR a 0 4)] := by
  rw [qdi]
  simp (disch := omega) only [qah, nth0, nth1, nth2, nth3, bit, qb3, qb4, qcf, qck, qcl, qcm, qcn, qco, qcp, qcq, qb5, qb6, qb7, qb8, qb9, qca, qcb, qcc, qcd, qce, qcg, qch, qci, qcj, qix, qiw, qiy, qg8, qhg, qhh, qe0, qai, qiq, nI, qcw, qcu, Bool.not_true, Bool.not_false, Bool.and_true, Bool.true_and, Bool.and_false, Bool.false_and, Bool.or_true, Bool.true_or, Bool.or_false, Bool.false_or, beq_self_eq_true, dTT, dFF, dT, dF, bigI, big0, qg7, qi9, qja, List.length_set, List.length_replicate, Int.toNat_natCast, qb1, qb2, imax, imin, qa3]
theorem qao (k : Nat) (hk : 2000000 ≤ k) (a0 : Int) (a1 : Int) (a2 : Int) : go (k + 3) impl_IdOk [(.agg [(.int .i64 (a0)), (.int .i64 (a1)), (.int .i64 (a2))])] = some [.bool (idOk a0 a1 a2)] := by
  rw [qc5]
  simp (disch := omega) only [qah, nth0, nth1, nth2, nth3, bit, qb3, qb4, qcf, qck, qcl, qcm, qcn, qco, qcp, qcq, qb5, qb6, qb7, qb8, qb9, qca, qcb, qcc, qcd, qce, qcg, qch, qci, qcj, qix, qiw, qiy, qg8, qhg, qhh, qe0, qai, qiq, nI, qcw, qcu, Bool.not_true, Bool.not_false, Bool.and_true, Bool.true_and, Bool.and_false, Bool.false_and, Bool.or_true, Bool.true_or, Bool.or_false, Bool.false_or, beq_self_eq_true, dTT, dFF, dT, dF, bigI, big0, qg7, qi9, qja, List.length_set, List.length_replicate, Int.toNat_natCast, qb1, qb2, imax, imin, qa3, qa0]
  unfold idOk
  cases h1 : inR a0 0 7 <;> cases h2 : inR a1 0 4 <;> simp only [qcw, qcu, Bool.true_and, Bool.false_and, Bool.and_false]
  have := lev0 h2
  have := qhf h2
  rw [pw h2, qi9 (x := pow2 a1 - 1) (by omega) (by omega)]
  rw [show decide ((0 : Int) ≤ a1) = true by simp; omega, qcw]
  have e : inR a2 0 (pow2 a1 - 1) = (decide (0 ≤ a2) && decide (a2 < pow2 a1)) := by
    unfold inR; rw [Bool.eq_iff_iff]; simp only [Bool.and_eq_true, decide_eq_true_eq]; omega
  rw [e]
def qi6 (l : Int) : Int := if inR l 0 4 then 16 / pow2 l else 0
theorem qbw (k : Nat) (hk : 2000000 ≤ k) (a : Int) : go (k + 2) spec_WidthOf [(.int .i64 (a))] = some [.int .i64 (qi6 a)] := by
  rw [qeh]
  simp (disch := omega) only [qah, nth0, nth1, nth2, nth3, bit, qb3, qb4, qcf, qck, qcl, qcm, qcn, qco, qcp, qcq, qb5, qb6, qb7, qb8, qb9, qca, qcb, qcc, qcd, qce, qcg, qch, qci, qcj, qix, qiw, qiy, qg8, qhg, qhh, qe0, qai, qiq, nI, qcw, qcu, Bool.not_true, Bool.not_false, Bool.and_true, Bool.true_and, Bool.and_false, Bool.false_and, Bool.or_true, Bool.true_or, Bool.or_false, Bool.false_or, beq_self_eq_true, dTT, dFF, dT, dF, bigI, big0, qg7, qi9, qja, List.length_set, List.length_replicate, Int.toNat_natCast, qb1, qb2, imax, imin, qbx, qi6]
  cases h2 : inR a 0 4
  · simp
  · rcases lev h2 with rfl | rfl | rfl | rfl | rfl <;> simp [qja, sh0, sh1, sh2, sh3, sh4, p20, p21, p22, p23, p24] <;> decide
theorem qau (k : Nat) (hk : 2000000 ≤ k) (a : Int) : go (k + 3) impl_WidthOf [(.int .i64 (a))] = some [.int .i64 (qi6 a)] := by
  rw [qde]
  simp (disch := omega) only [qah, nth0, nth1, nth2, nth3, bit, qb3, qb4, qcf, qck, qcl, qcm, qcn, qco, qcp, qcq, qb5, qb6, qb7, qb8, qb9, qca, qcb, qcc, qcd, qce, qcg, qch, qci, qcj, qix, qiw, qiy, qg8, qhg, qhh, qe0, qai, qiq, nI, qcw, qcu, Bool.not_true, Bool.not_false, Bool.and_true, Bool.true_and, Bool.and_false, Bool.false_and, Bool.or_true, Bool.true_or, Bool.or_false, Bool.false_or, beq_self_eq_true, dTT, dFF, dT, dF, bigI, big0, qg7, qi9, qja, List.length_set, List.length_replicate, Int.toNat_natCast, qb1, qb2, imax, imin, qa0, qi6]
  cases h2 : inR a 0 4
  · simp
  · rcases lev h2 with rfl | rfl | rfl | rfl | rfl <;> simp [qja, sh0, sh1, sh2, sh3, sh4, p20, p21, p22, p23, p24] <;> decide
def qin (r l i : Int) : Int := if idOk r l i then r * 16 + i * qi6 l else -1
theorem qi8 (l : Int) : 0 ≤ qi6 l ∧ qi6 l ≤ 16 := by
  unfold qi6
  cases h : inR l 0 4
  · simp
  · rcases lev h with rfl | rfl | rfl | rfl | rfl <;> decide
theorem qey {r l i : Int} (h : idOk r l i = true) : 0 ≤ r ∧ r ≤ 7 ∧ inR l 0 4 = true ∧ 0 ≤ i ∧ i < pow2 l := by
  simp only [idOk, Bool.and_eq_true, decide_eq_true_eq] at h
  obtain ⟨h1, h2, h3, h4⟩ := h
  simp only [inR, Bool.and_eq_true, decide_eq_true_eq] at h1
  exact ⟨h1.1, h1.2, h2, h3, h4⟩
theorem iw {r l i : Int} (h : idOk r l i = true) : 0 ≤ i * qi6 l ∧ i * qi6 l ≤ 256 := by
  obtain ⟨_, _, h2, h3, h4⟩ := qey h
  have h5 := (qhf h2).2
  have h6 := qi8 l
  have h7 : i ≤ 16 := by omega
  refine ⟨Int.mul_nonneg h3 h6.1, ?_⟩
  calc i * qi6 l ≤ 16 * qi6 l := Int.mul_le_mul_of_nonneg_right h7 h6.1
    _ ≤ 16 * 16 := Int.mul_le_mul_of_nonneg_left h6.2 (by omega)
theorem qio (r l i : Int) : -1 ≤ qin r l i ∧ qin r l i ≤ 1000 := by
  unfold qin
  cases h : idOk r l i
  · simp
  · have := iw h; have := qey h
    simp; omega
theorem qip {r l i : Int} (h : idOk r l i = true) : IntKind.wrap .i64 (IntKind.wrap .i64 (r * (16 : Int)) + IntKind.wrap .i64 (i * qi6 l)) = qin r l i := by
  have h1 := iw h; have h2 := qey h
  rw [qi9 (x := r * 16) (by omega) (by omega), qi9 (x := i * qi6 l) (by omega) (by omega), qi9 (by omega) (by omega)]
  simp [qin, h]
theorem qbu (k : Nat) (hk : 2000000 ≤ k) (a0 : Int) (a1 : Int) (a2 : Int) : go (k + 3) spec_StartOf [(.agg [(.int .i64 (a0)), (.int .i64 (a1)), (.int .i64 (a2))])] = some [.int .i64 (qin a0 a1 a2)] := by
  rw [qef]
  simp (disch := omega) only [qah, nth0, nth1, nth2, nth3, bit, qb3, qb4, qcf, qck, qcl, qcm, qcn, qco, qcp, qcq, qb5, qb6, qb7, qb8, qb9, qca, qcb, qcc, qcd, qce, qcg, qch, qci, qcj, qix, qiw, qiy, qg8, qhg, qhh, qe0, qai, qiq, nI, qcw, qcu, Bool.not_true, Bool.not_false, Bool.and_true, Bool.true_and, Bool.and_false, Bool.false_and, Bool.or_true, Bool.true_or, Bool.or_false, Bool.false_or, beq_self_eq_true, dTT, dFF, dT, dF, bigI, big0, qg7, qi9, qja, List.length_set, List.length_replicate, Int.toNat_natCast, qb1, qb2, imax, imin, qbq, qbw]
  cases h : idOk a0 a1 a2
  · simp [qin, h]
  · rw [qip h]; rfl
theorem qas (k : Nat) (hk : 2000000 ≤ k) (a0 : Int) (a1 : Int) (a2 : Int) : go (k + 4) impl_StartOf [(.agg [(.int .i64 (a0)), (.int .i64 (a1)), (.int .i64 (a2))])] = some [.int .i64 (qin a0 a1 a2)] := by
  rw [qda]
  simp (disch := omega) only [qah, nth0, nth1, nth2, nth3, bit, qb3, qb4, qcf, qck, qcl, qcm, qcn, qco, qcp, qcq, qb5, qb6, qb7, qb8, qb9, qca, qcb, qcc, qcd, qce, qcg, qch, qci, qcj, qix, qiw, qiy, qg8, qhg, qhh, qe0, qai, qiq, nI, qcw, qcu, Bool.not_true, Bool.not_false, Bool.and_true, Bool.true_and, Bool.and_false, Bool.false_and, Bool.or_true, Bool.true_or, Bool.or_false, Bool.false_or, beq_self_eq_true, dTT, dFF, dT, dF, bigI, big0, qg7, qi9, qja, List.length_set, List.length_replicate, Int.toNat_natCast, qb1, qb2, imax, imin, qao, qau]
  cases h : idOk a0 a1 a2
  · simp [qin, h]
  · rw [qip h]; rfl
theorem qen (r l i : Int) : IntKind.wrap .i64 (qin r l i + qi6 l) = qin r l i + qi6 l := by
  have h1 := qio r l i; have h2 := qi8 l
  exact qi9 (by omega) (by omega)
theorem qby (k : Nat) (hk : 2000000 ≤ k) (a0 : Int) (a1 : Int) (a2 : Int) : go (k + 4) spec_l04End [(.agg [(.int .i64 (a0)), (.int .i64 (a1)), (.int .i64 (a2))])] = some [.int .i64 (qin a0 a1 a2 + qi6 a1)] := by
  rw [qej]
  simp (disch := omega) only [qah, nth0, nth1, nth2, nth3, bit, qb3, qb4, qcf, qck, qcl, qcm, qcn, qco, qcp, qcq, qb5, qb6, qb7, qb8, qb9, qca, qcb, qcc, qcd, qce, qcg, qch, qci, qcj, qix, qiw, qiy, qg8, qhg, qhh, qe0, qai, qiq, nI, qcw, qcu, Bool.not_true, Bool.not_false, Bool.and_true, Bool.true_and, Bool.and_false, Bool.false_and, Bool.or_true, Bool.true_or, Bool.or_false, Bool.false_or, beq_self_eq_true, dTT, dFF, dT, dF, bigI, big0, qg7, qi9, qja, List.length_set, List.length_replicate, Int.toNat_natCast, qb1, qb2, imax, imin, qbu, qbw, qen]
theorem qaw (k : Nat) (hk : 2000000 ≤ k) (a0 : Int) (a1 : Int) (a2 : Int) : go (k + 5) impl_endOf [(.agg [(.int .i64 (a0)), (.int .i64 (a1)), (.int .i64 (a2))])] = some [.int .i64 (qin a0 a1 a2 + qi6 a1)] := by
  rw [qdg]
  simp (disch := omega) only [qah, nth0, nth1, nth2, nth3, bit, qb3, qb4, qcf, qck, qcl, qcm, qcn, qco, qcp, qcq, qb5, qb6, qb7, qb8, qb9, qca, qcb, qcc, qcd, qce, qcg, qch, qci, qcj, qix, qiw, qiy, qg8, qhg, qhh, qe0, qai, qiq, nI, qcw, qcu, Bool.not_true, Bool.not_false, Bool.and_true, Bool.true_and, Bool.and_false, Bool.false_and, Bool.or_true, Bool.true_or, Bool.or_false, Bool.false_or, beq_self_eq_true, dTT, dFF, dT, dF, bigI, big0, qg7, qi9, qja, List.length_set, List.length_replicate, Int.toNat_natCast, qb1, qb2, imax, imin, qas, qau, qen]
abbrev Cell := Int × Int × Int
def qgx (roots : Int) : Int → List Cell → Bool
  | pos, [] => inR roots 1 8 && decide (pos = roots * 16)
  | pos, x :: rest => idOk x.1 x.2.1 x.2.2 && (decide (qin x.1 x.2.1 x.2.2 = pos) && qgx roots (qin x.1 x.2.1 x.2.2 + qi6 x.2.1) rest)
theorem qgy (roots pos : Int) : cond (inR roots 1 8) (some [D.bool (decide (pos = IntKind.wrap .i64 (roots * (16 : Int))))]) (some [D.bool false]) = some [D.bool (qgx roots pos [])] := by
  unfold qgx
  cases h : inR roots 1 8
  · rfl
  · simp only [inR, Bool.and_eq_true, decide_eq_true_eq] at h
    rw [qi9 (by omega) (by omega)]; rfl
theorem qgj (k : Nat) (hk : 2000000 ≤ k) (fu : List (Nat × Nat)) (z : Bool) (l : List Cell) (roots : Int) (hl : (l.length : Int) ≤ 1048576) : ∀ (n i : Nat) (pos : Int), i ≤ l.length → l.length - i < n →
    lp (k + 4) spec_MeshOk [] fu 3 (n) (qh9 pos (i : Int) z l roots) = some [.bool (qgx roots pos (l.drop i))]
  | 0, i, pos, hi, hn => by omega
  | n + 1, i, pos, hi, hn => by
    rw [qfn]
    by_cases h : i < l.length
    · rw [qcz h zz3]
      simp (disch := omega) only [qah, nth0, nth1, nth2, nth3, bit, qb3, qb4, qcf, qck, qcl, qcm, qcn, qco, qcp, qcq, qb5, qb6, qb7, qb8, qb9, qca, qcb, qcc, qcd, qce, qcg, qch, qci, qcj, qix, qiw, qiy, qg8, qhg, qhh, qe0, qai, qiq, nI, qcw, qcu, Bool.not_true, Bool.not_false, Bool.and_true, Bool.true_and, Bool.and_false, Bool.false_and, Bool.or_true, Bool.true_or, Bool.or_false, Bool.false_or, beq_self_eq_true, dTT, dFF, dT, dF, bigI, big0, qg7, qi9, qja, List.length_set, List.length_replicate, Int.toNat_natCast, qb1, qb2, imax, imin, qbq, qbu, qby, qgx]
      rw [qgj k hk fu z l roots hl n (i + 1) _ (by omega) (by omega)]
      simp only [qcx, qcy, Bool.and_assoc]
    · rw [List.drop_of_length_le (by omega)]
      simp (disch := omega) only [qah, nth0, nth1, nth2, nth3, bit, qb3, qb4, qcf, qck, qcl, qcm, qcn, qco, qcp, qcq, qb5, qb6, qb7, qb8, qb9, qca, qcb, qcc, qcd, qce, qcg, qch, qci, qcj, qix, qiw, qiy, qg8, qhg, qhh, qe0, qai, qiq, nI, qcw, qcu, Bool.not_true, Bool.not_false, Bool.and_true, Bool.true_and, Bool.and_false, Bool.false_and, Bool.or_true, Bool.true_or, Bool.or_false, Bool.false_or, beq_self_eq_true, dTT, dFF, dT, dF, bigI, big0, qg7, qi9, qja, List.length_set, List.length_replicate, Int.toNat_natCast, qb1, qb2, imax, imin, qbx]
      exact qgy roots pos
theorem qbs (k : Nat) (hk : 2000000 ≤ k) (a0 : Int) (a1z : Bool) (a1 : List (Int × Int × Int)) (hl : (a1.length : Int) ≤ 1048576) : go (k + 5) spec_MeshOk [(.agg [(.int .i64 (a0)), (.arr false (a1z) (.r3 (a1)))])] = some [.bool (qgx a0 0 a1)] := by
  rw [qed]
  exact qgj k hk _ _ a1 a0 hl _ 0 0 (by omega) (by omega)
theorem qf5 (k : Nat) (hk : 2000000 ≤ k) (fu : List (Nat × Nat)) (z : Bool) (l : List Cell) (roots : Int) (hl : (l.length : Int) ≤ 1048576) : ∀ (n i : Nat) (pos : Int), i ≤ l.length → l.length - i < n →
    lp (k + 5) impl_MeshOk [] fu 3 (n) (qhr pos (l.length : Int) (i : Int) z l roots) = some [.bool (qgx roots pos (l.drop i))]
  | 0, i, pos, hi, hn => by omega
  | n + 1, i, pos, hi, hn => by
    rw [qe5]
    by_cases h : i < l.length
    · rw [qcz h zz3]
      simp (disch := omega) only [qah, nth0, nth1, nth2, nth3, bit, qb3, qb4, qcf, qck, qcl, qcm, qcn, qco, qcp, qcq, qb5, qb6, qb7, qb8, qb9, qca, qcb, qcc, qcd, qce, qcg, qch, qci, qcj, qix, qiw, qiy, qg8, qhg, qhh, qe0, qai, qiq, nI, qcw, qcu, Bool.not_true, Bool.not_false, Bool.and_true, Bool.true_and, Bool.and_false, Bool.false_and, Bool.or_true, Bool.true_or, Bool.or_false, Bool.false_or, beq_self_eq_true, dTT, dFF, dT, dF, bigI, big0, qg7, qi9, qja, List.length_set, List.length_replicate, Int.toNat_natCast, qb1, qb2, imax, imin, qao, qas, qaw, qgx]
      rw [qf5 k hk fu z l roots hl n (i + 1) _ (by omega) (by omega)]
      simp only [qcx, qcy, Bool.and_assoc]
    · rw [List.drop_of_length_le (by omega)]
      simp (disch := omega) only [qah, nth0, nth1, nth2, nth3, bit, qb3, qb4, qcf, qck, qcl, qcm, qcn, qco, qcp, qcq, qb5, qb6, qb7, qb8, qb9, qca, qcb, qcc, qcd, qce, qcg, qch, qci, qcj, qix, qiw, qiy, qg8, qhg, qhh, qe0, qai, qiq, nI, qcw, qcu, Bool.not_true, Bool.not_false, Bool.and_true, Bool.true_and, Bool.and_false, Bool.false_and, Bool.or_true, Bool.true_or, Bool.or_false, Bool.false_or, beq_self_eq_true, dTT, dFF, dT, dF, bigI, big0, qg7, qi9, qja, List.length_set, List.length_replicate, Int.toNat_natCast, qb1, qb2, imax, imin, qa3]
      exact qgy roots pos
theorem qaq (k : Nat) (hk : 2000000 ≤ k) (a0 : Int) (a1z : Bool) (a1 : List (Int × Int × Int)) (hl : (a1.length : Int) ≤ 1048576) : go (k + 6) impl_MeshOk [(.agg [(.int .i64 (a0)), (.arr false (a1z) (.r3 (a1)))])] = some [.bool (qgx a0 0 a1)] := by
  rw [qc7]
  exact qf5 k hk _ _ a1 a0 hl _ 0 0 (by omega) (by omega)
theorem qev (r n : Nat) (fu : List (Nat × Nat)) : fuelOf ((r, n) :: fu) r = n := by simp [fuelOf, find]
end Go.Proofs.Ytcaapedadpnjoaa
end
section
namespace Go.Proofs.Ytcaapedadpnjoaa
open Go.Ev
theorem qik {α : Type} (l o : List α) (i : Nat) (d : α) (h : i < l.length) (ho : o.length = l.length) : (o.set i (l.getD i d)).take (i + 1) ++ l.drop (i + 1) = o.take i ++ l.drop i := by
  rw [qcz h d]
  have : (o.set i (l.getD i d)).take (i + 1) = o.take i ++ [l.getD i d] := by
    rw [List.take_succ_eq_append_getElem (by simp; omega)]
    simp [List.take_set_of_le]
  rw [this]; simp
theorem qbi (k : Nat) (hk : 2000000 ≤ k) (a0 : Int) (a1 : Int) (a2 : Int) : go (k + 1) laws_toId [(.agg [(.int .i64 (a0)), (.int .i64 (a1)), (.int .i64 (a2))])] = some [.agg [.int .i64 a0, .int .i64 a1, .int .i64 a2]] := by rw [qdz]
theorem qge (k : Nat) (hk : 2000000 ≤ k) (fu : List (Nat × Nat)) (z z' : Bool) (l : List Cell) (hl : (l.length : Int) ≤ 1048576) : ∀ (n i : Nat) (o : List Cell), i ≤ l.length → o.length = l.length → l.length - i < n →
    lp (k + 1) laws_toIdS [] fu 3 (n) (qh2 (i : Int) z l z' o) = some [.arr true z' (.r3 (o.take i ++ l.drop i))]
  | 0, i, o, hi, ho, hn => by omega
  | n + 1, i, o, hi, ho, hn => by
    rw [qfg]
    by_cases h : i < l.length
    · simp (disch := omega) only [qah, nth0, nth1, nth2, nth3, bit, qb3, qb4, qcf, qck, qcl, qcm, qcn, qco, qcp, qcq, qb5, qb6, qb7, qb8, qb9, qca, qcb, qcc, qcd, qce, qcg, qch, qci, qcj, qix, qiw, qiy, qg8, qhg, qhh, qe0, qai, qiq, nI, qcw, qcu, Bool.not_true, Bool.not_false, Bool.and_true, Bool.true_and, Bool.and_false, Bool.false_and, Bool.or_true, Bool.true_or, Bool.or_false, Bool.false_or, beq_self_eq_true, dTT, dFF, dT, dF, bigI, big0, qg7, qi9, qja, List.length_set, List.length_replicate, Int.toNat_natCast, qb1, qb2, imax, imin, qbi]
      rw [qge k hk fu z z' l hl n (i + 1) _ (by omega) (by simp [ho]) (by omega)]
      exact congrArg (fun x => some [D.arr true z' (.r3 x)]) (qik l o i zz3 h ho)
    · simp (disch := omega) only [qah, nth0, nth1, nth2, nth3, bit, qb3, qb4, qcf, qck, qcl, qcm, qcn, qco, qcp, qcq, qb5, qb6, qb7, qb8, qb9, qca, qcb, qcc, qcd, qce, qcg, qch, qci, qcj, qix, qiw, qiy, qg8, qhg, qhh, qe0, qai, qiq, nI, qcw, qcu, Bool.not_true, Bool.not_false, Bool.and_true, Bool.true_and, Bool.and_false, Bool.false_and, Bool.or_true, Bool.true_or, Bool.or_false, Bool.false_or, beq_self_eq_true, dTT, dFF, dT, dF, bigI, big0, qg7, qi9, qja, List.length_set, List.length_replicate, Int.toNat_natCast, qb1, qb2, imax, imin]
      have hil : i = l.length := by omega
      rw [hil, List.drop_length, List.append_nil, List.take_of_length_le (by omega)]
theorem qbj (k : Nat) (hk : 2000000 ≤ k) (az : Bool) (a : List (Int × Int × Int)) (hl : (a.length : Int) ≤ 1048576) : go (k + 2) laws_toIdS [(.arr false (az) (.r3 (a)))] = some [.arr true false (.r3 a)] := by
  rw [qd0]
  simp (disch := omega) only [qah, nth0, nth1, nth2, nth3, bit, qb3, qb4, qcf, qck, qcl, qcm, qcn, qco, qcp, qcq, qb5, qb6, qb7, qb8, qb9, qca, qcb, qcc, qcd, qce, qcg, qch, qci, qcj, qix, qiw, qiy, qg8, qhg, qhh, qe0, qai, qiq, nI, qcw, qcu, Bool.not_true, Bool.not_false, Bool.and_true, Bool.true_and, Bool.and_false, Bool.false_and, Bool.or_true, Bool.true_or, Bool.or_false, Bool.false_or, beq_self_eq_true, dTT, dFF, dT, dF, bigI, big0, qg7, qi9, qja, List.length_set, List.length_replicate, Int.toNat_natCast, qb1, qb2, imax, imin]
  refine Eq.trans (qge k hk [] az false a hl _ 0 (List.replicate a.length zz3) (by omega) (by simp) (by omega)) ?_
  simp
theorem qbl (k : Nat) (hk : 2000000 ≤ k) (a0 : Int) (a1z : Bool) (a1 : List (Int × Int × Int)) (hl : (a1.length : Int) ≤ 1048576) : go (k + 3) laws_toMesh [(.agg [(.int .i64 (a0)), (.arr false (a1z) (.r3 (a1)))])] = some [.agg [.int .i64 a0, .arr true false (.r3 a1)]] := by
  rw [qd2]
  simp (disch := omega) only [qah, nth0, nth1, nth2, nth3, bit, qb3, qb4, qcf, qck, qcl, qcm, qcn, qco, qcp, qcq, qb5, qb6, qb7, qb8, qb9, qca, qcb, qcc, qcd, qce, qcg, qch, qci, qcj, qix, qiw, qiy, qg8, qhg, qhh, qe0, qai, qiq, nI, qcw, qcu, Bool.not_true, Bool.not_false, Bool.and_true, Bool.true_and, Bool.and_false, Bool.false_and, Bool.or_true, Bool.true_or, Bool.or_false, Bool.false_or, beq_self_eq_true, dTT, dFF, dT, dF, bigI, big0, qg7, qi9, qja, List.length_set, List.length_replicate, Int.toNat_natCast, qb1, qb2, imax, imin, qbj]
theorem qbd (k : Nat) (hk : 2000000 ≤ k) (az : Bool) (a : List (Int × Int × Int)) (b : Int) (hl : (a.length : Int) ≤ 9223372036854775807) (hb : 0 ≤ b) (hb' : b ≤ 1048576) : go (k + 1) laws_szIdS [(.arr false (az) (.r3 (a))), (.int .i64 (b))] = some [.int .i64 (if (a.length : Int) ≤ b then b - a.length else -1)] := by
  rw [qdu]
  by_cases h : (a.length : Int) ≤ b
  · simp (disch := omega) only [qah, nth0, nth1, nth2, nth3, bit, qb3, qb4, qcf, qck, qcl, qcm, qcn, qco, qcp, qcq, qb5, qb6, qb7, qb8, qb9, qca, qcb, qcc, qcd, qce, qcg, qch, qci, qcj, qix, qiw, qiy, qg8, qhg, qhh, qe0, qai, qiq, nI, qcw, qcu, Bool.not_true, Bool.not_false, Bool.and_true, Bool.true_and, Bool.and_false, Bool.false_and, Bool.or_true, Bool.true_or, Bool.or_false, Bool.false_or, beq_self_eq_true, dTT, dFF, dT, dF, bigI, big0, qg7, qi9, qja, List.length_set, List.length_replicate, Int.toNat_natCast, qb1, qb2, imax, imin, if_pos h]
  · simp (disch := omega) only [qah, nth0, nth1, nth2, nth3, bit, qb3, qb4, qcf, qck, qcl, qcm, qcn, qco, qcp, qcq, qb5, qb6, qb7, qb8, qb9, qca, qcb, qcc, qcd, qce, qcg, qch, qci, qcj, qix, qiw, qiy, qg8, qhg, qhh, qe0, qai, qiq, nI, qcw, qcu, Bool.not_true, Bool.not_false, Bool.and_true, Bool.true_and, Bool.and_false, Bool.false_and, Bool.or_true, Bool.true_or, Bool.or_false, Bool.false_or, beq_self_eq_true, dTT, dFF, dT, dF, bigI, big0, qg7, qi9, qja, List.length_set, List.length_replicate, Int.toNat_natCast, qb1, qb2, imax, imin, if_neg h]
theorem qbf (k : Nat) (hk : 2000000 ≤ k) (a0 : Int) (a1z : Bool) (a1 : List (Int × Int × Int)) (b : Int) (hl : (a1.length : Int) ≤ 9223372036854775807) (hb : 0 ≤ b) (hb' : b ≤ 1048576) : go (k + 2) laws_szMesh [(.agg [(.int .i64 (a0)), (.arr false (a1z) (.r3 (a1)))]), (.int .i64 (b))] = some [.int .i64 (if (a1.length : Int) ≤ b then b - a1.length else -1)] := by
  rw [qdw]
  simp (disch := omega) only [qah, nth0, nth1, nth2, nth3, bit, qb3, qb4, qcf, qck, qcl, qcm, qcn, qco, qcp, qcq, qb5, qb6, qb7, qb8, qb9, qca, qcb, qcc, qcd, qce, qcg, qch, qci, qcj, qix, qiw, qiy, qg8, qhg, qhh, qe0, qai, qiq, nI, qcw, qcu, Bool.not_true, Bool.not_false, Bool.and_true, Bool.true_and, Bool.and_false, Bool.false_and, Bool.or_true, Bool.true_or, Bool.or_false, Bool.false_or, beq_self_eq_true, dTT, dFF, dT, dF, bigI, big0, qg7, qi9, qja, List.length_set, List.length_replicate, Int.toNat_natCast, qb1, qb2, imax, imin, qbd]
  by_cases h : (a1.length : Int) ≤ b
  · simp (disch := omega) only [qah, nth0, nth1, nth2, nth3, bit, qb3, qb4, qcf, qck, qcl, qcm, qcn, qco, qcp, qcq, qb5, qb6, qb7, qb8, qb9, qca, qcb, qcc, qcd, qce, qcg, qch, qci, qcj, qix, qiw, qiy, qg8, qhg, qhh, qe0, qai, qiq, nI, qcw, qcu, Bool.not_true, Bool.not_false, Bool.and_true, Bool.true_and, Bool.and_false, Bool.false_and, Bool.or_true, Bool.true_or, Bool.or_false, Bool.false_or, beq_self_eq_true, dTT, dFF, dT, dF, bigI, big0, qg7, qi9, qja, List.length_set, List.length_replicate, Int.toNat_natCast, qb1, qb2, imax, imin, if_pos h]
  · simp (disch := omega) only [qah, nth0, nth1, nth2, nth3, bit, qb3, qb4, qcf, qck, qcl, qcm, qcn, qco, qcp, qcq, qb5, qb6, qb7, qb8, qb9, qca, qcb, qcc, qcd, qce, qcg, qch, qci, qcj, qix, qiw, qiy, qg8, qhg, qhh, qe0, qai, qiq, nI, qcw, qcu, Bool.not_true, Bool.not_false, Bool.and_true, Bool.true_and, Bool.and_false, Bool.false_and, Bool.or_true, Bool.true_or, Bool.or_false, Bool.false_or, beq_self_eq_true, dTT, dFF, dT, dF, bigI, big0, qg7, qi9, qja, List.length_set, List.length_replicate, Int.toNat_natCast, qb1, qb2, imax, imin, if_neg h]
theorem qa4 (k : Nat) (hk : 2000000 ≤ k) (a b c : Int) : go (k + 1) laws_eqId [.agg [.int .i64 a, .int .i64 b, .int .i64 c], .agg [.int .i64 a, .int .i64 b, .int .i64 c]] = some [.bool true] := by
  rw [qdl]; simp
theorem qf9 (k : Nat) (hk : 2000000 ≤ k) (fu : List (Nat × Nat)) (z z' : Bool) (l : List Cell) (hl : (l.length : Int) ≤ 1048576) : ∀ (n i : Nat), i ≤ l.length → l.length - i < n →
    lp (k + 1) laws_eqIdS [] fu 4 (n) (qhv (i : Int) z l z' l) = some [.bool true]
  | 0, i, hi, hn => by omega
  | n + 1, i, hi, hn => by
    rw [qe9]
    by_cases h : i < l.length
    · simp (disch := omega) only [qah, nth0, nth1, nth2, nth3, bit, qb3, qb4, qcf, qck, qcl, qcm, qcn, qco, qcp, qcq, qb5, qb6, qb7, qb8, qb9, qca, qcb, qcc, qcd, qce, qcg, qch, qci, qcj, qix, qiw, qiy, qg8, qhg, qhh, qe0, qai, qiq, nI, qcw, qcu, Bool.not_true, Bool.not_false, Bool.and_true, Bool.true_and, Bool.and_false, Bool.false_and, Bool.or_true, Bool.true_or, Bool.or_false, Bool.false_or, beq_self_eq_true, dTT, dFF, dT, dF, bigI, big0, qg7, qi9, qja, List.length_set, List.length_replicate, Int.toNat_natCast, qb1, qb2, imax, imin, qa4]
      exact qf9 k hk fu z z' l hl n (i + 1) (by omega) (by omega)
    · simp (disch := omega) only [qah, nth0, nth1, nth2, nth3, bit, qb3, qb4, qcf, qck, qcl, qcm, qcn, qco, qcp, qcq, qb5, qb6, qb7, qb8, qb9, qca, qcb, qcc, qcd, qce, qcg, qch, qci, qcj, qix, qiw, qiy, qg8, qhg, qhh, qe0, qai, qiq, nI, qcw, qcu, Bool.not_true, Bool.not_false, Bool.and_true, Bool.true_and, Bool.and_false, Bool.false_and, Bool.or_true, Bool.true_or, Bool.or_false, Bool.false_or, beq_self_eq_true, dTT, dFF, dT, dF, bigI, big0, qg7, qi9, qja, List.length_set, List.length_replicate, Int.toNat_natCast, qb1, qb2, imax, imin]
theorem qa5 (k : Nat) (hk : 2000000 ≤ k) (z z' : Bool) (l : List Cell) (hl : (l.length : Int) ≤ 1048576) : go (k + 2) laws_eqIdS [.arr false z (.r3 l), .arr false z' (.r3 l)] = some [.bool true] := by
  rw [qdm]
  simp (disch := omega) only [qah, nth0, nth1, nth2, nth3, bit, qb3, qb4, qcf, qck, qcl, qcm, qcn, qco, qcp, qcq, qb5, qb6, qb7, qb8, qb9, qca, qcb, qcc, qcd, qce, qcg, qch, qci, qcj, qix, qiw, qiy, qg8, qhg, qhh, qe0, qai, qiq, nI, qcw, qcu, Bool.not_true, Bool.not_false, Bool.and_true, Bool.true_and, Bool.and_false, Bool.false_and, Bool.or_true, Bool.true_or, Bool.or_false, Bool.false_or, beq_self_eq_true, dTT, dFF, dT, dF, bigI, big0, qg7, qi9, qja, List.length_set, List.length_replicate, Int.toNat_natCast, qb1, qb2, imax, imin]
  exact qf9 k hk [] z z' l hl _ 0 (by omega) (by omega)
theorem qa7 (k : Nat) (hk : 2000000 ≤ k) (roots : Int) (z z' : Bool) (l : List Cell) (hl : (l.length : Int) ≤ 1048576) : go (k + 3) laws_eqMesh [.agg [.int .i64 roots, .arr false z (.r3 l)], .agg [.int .i64 roots, .arr false z' (.r3 l)]] = some [.bool true] := by
  rw [qdo]
  simp (disch := omega) only [qah, nth0, nth1, nth2, nth3, bit, qb3, qb4, qcf, qck, qcl, qcm, qcn, qco, qcp, qcq, qb5, qb6, qb7, qb8, qb9, qca, qcb, qcc, qcd, qce, qcg, qch, qci, qcj, qix, qiw, qiy, qg8, qhg, qhh, qe0, qai, qiq, nI, qcw, qcu, Bool.not_true, Bool.not_false, Bool.and_true, Bool.true_and, Bool.and_false, Bool.false_and, Bool.or_true, Bool.true_or, Bool.or_false, Bool.false_or, beq_self_eq_true, dTT, dFF, dT, dF, bigI, big0, qg7, qi9, qja, List.length_set, List.length_replicate, Int.toNat_natCast, qb1, qb2, imax, imin, qa5]
theorem qgf (k : Nat) (hk : 2000000 ≤ k) (fu : List (Nat × Nat)) (z z' : Bool) (l : List Int) (hl : (l.length : Int) ≤ 1048576) : ∀ (n i : Nat) (o : List Int), i ≤ l.length → o.length = l.length → l.length - i < n →
    lp k laws_toIntS [] fu 3 (n) (qh3 (i : Int) z l z' o) = some [.arr true z' (.ints .i64 (o.take i ++ l.drop i))]
  | 0, i, o, hi, ho, hn => by omega
  | n + 1, i, o, hi, ho, hn => by
    rw [qfh]
    by_cases h : i < l.length
    · simp (disch := omega) only [qah, nth0, nth1, nth2, nth3, bit, qb3, qb4, qcf, qck, qcl, qcm, qcn, qco, qcp, qcq, qb5, qb6, qb7, qb8, qb9, qca, qcb, qcc, qcd, qce, qcg, qch, qci, qcj, qix, qiw, qiy, qg8, qhg, qhh, qe0, qai, qiq, nI, qcw, qcu, Bool.not_true, Bool.not_false, Bool.and_true, Bool.true_and, Bool.and_false, Bool.false_and, Bool.or_true, Bool.true_or, Bool.or_false, Bool.false_or, beq_self_eq_true, dTT, dFF, dT, dF, bigI, big0, qg7, qi9, qja, List.length_set, List.length_replicate, Int.toNat_natCast, qb1, qb2, imax, imin]
      rw [qgf k hk fu z z' l hl n (i + 1) _ (by omega) (by simp [ho]) (by omega)]
      exact congrArg (fun x => some [D.arr true z' (.ints .i64 x)]) (qik l o i 0 h ho)
    · simp (disch := omega) only [qah, nth0, nth1, nth2, nth3, bit, qb3, qb4, qcf, qck, qcl, qcm, qcn, qco, qcp, qcq, qb5, qb6, qb7, qb8, qb9, qca, qcb, qcc, qcd, qce, qcg, qch, qci, qcj, qix, qiw, qiy, qg8, qhg, qhh, qe0, qai, qiq, nI, qcw, qcu, Bool.not_true, Bool.not_false, Bool.and_true, Bool.true_and, Bool.and_false, Bool.false_and, Bool.or_true, Bool.true_or, Bool.or_false, Bool.false_or, beq_self_eq_true, dTT, dFF, dT, dF, bigI, big0, qg7, qi9, qja, List.length_set, List.length_replicate, Int.toNat_natCast, qb1, qb2, imax, imin]
      have hil : i = l.length := by omega
      rw [hil, List.drop_length, List.append_nil, List.take_of_length_le (by omega)]
theorem qbk (k : Nat) (hk : 2000000 ≤ k) (az : Bool) (a : List Int) (hl : (a.length : Int) ≤ 1048576) : go (k + 1) laws_toIntS [(.arr false (az) (.ints .i64 (a)))] = some [.arr true false (.ints .i64 a)] := by
  rw [qd1]
  simp (disch := omega) only [qah, nth0, nth1, nth2, nth3, bit, qb3, qb4, qcf, qck, qcl, qcm, qcn, qco, qcp, qcq, qb5, qb6, qb7, qb8, qb9, qca, qcb, qcc, qcd, qce, qcg, qch, qci, qcj, qix, qiw, qiy, qg8, qhg, qhh, qe0, qai, qiq, nI, qcw, qcu, Bool.not_true, Bool.not_false, Bool.and_true, Bool.true_and, Bool.and_false, Bool.false_and, Bool.or_true, Bool.true_or, Bool.or_false, Bool.false_or, beq_self_eq_true, dTT, dFF, dT, dF, bigI, big0, qg7, qi9, qja, List.length_set, List.length_replicate, Int.toNat_natCast, qb1, qb2, imax, imin]
  refine Eq.trans (qgf k hk [] az false a hl _ 0 (List.replicate a.length 0) (by omega) (by simp) (by omega)) ?_
  simp
theorem qbe (k : Nat) (hk : 2000000 ≤ k) (az : Bool) (a : List Int) (b : Int) (hl : (a.length : Int) ≤ 9223372036854775807) (hb : 0 ≤ b) (hb' : b ≤ 1048576) : go (k + 1) laws_szIntS [(.arr false (az) (.ints .i64 (a))), (.int .i64 (b))] = some [.int .i64 (if (a.length : Int) ≤ b then b - a.length else -1)] := by
  rw [qdv]
  by_cases h : (a.length : Int) ≤ b
  · simp (disch := omega) only [qah, nth0, nth1, nth2, nth3, bit, qb3, qb4, qcf, qck, qcl, qcm, qcn, qco, qcp, qcq, qb5, qb6, qb7, qb8, qb9, qca, qcb, qcc, qcd, qce, qcg, qch, qci, qcj, qix, qiw, qiy, qg8, qhg, qhh, qe0, qai, qiq, nI, qcw, qcu, Bool.not_true, Bool.not_false, Bool.and_true, Bool.true_and, Bool.and_false, Bool.false_and, Bool.or_true, Bool.true_or, Bool.or_false, Bool.false_or, beq_self_eq_true, dTT, dFF, dT, dF, bigI, big0, qg7, qi9, qja, List.length_set, List.length_replicate, Int.toNat_natCast, qb1, qb2, imax, imin, if_pos h]
  · simp (disch := omega) only [qah, nth0, nth1, nth2, nth3, bit, qb3, qb4, qcf, qck, qcl, qcm, qcn, qco, qcp, qcq, qb5, qb6, qb7, qb8, qb9, qca, qcb, qcc, qcd, qce, qcg, qch, qci, qcj, qix, qiw, qiy, qg8, qhg, qhh, qe0, qai, qiq, nI, qcw, qcu, Bool.not_true, Bool.not_false, Bool.and_true, Bool.true_and, Bool.and_false, Bool.false_and, Bool.or_true, Bool.true_or, Bool.or_false, Bool.false_or, beq_self_eq_true, dTT, dFF, dT, dF, bigI, big0, qg7, qi9, qja, List.length_set, List.length_replicate, Int.toNat_natCast, qb1, qb2, imax, imin, if_neg h]
theorem qga (k : Nat) (hk : 2000000 ≤ k) (fu : List (Nat × Nat)) (z z' : Bool) (l : List Int) (hl : (l.length : Int) ≤ 1048576) : ∀ (n i : Nat), i ≤ l.length → l.length - i < n →
    lp k laws_eqIntS [] fu 4 (n) (qhw (i : Int) z l z' l) = some [.bool true]
  | 0, i, hi, hn => by omega
  | n + 1, i, hi, hn => by
    rw [qfa]
    by_cases h : i < l.length
    · simp (disch := omega) only [qah, nth0, nth1, nth2, nth3, bit, qb3, qb4, qcf, qck, qcl, qcm, qcn, qco, qcp, qcq, qb5, qb6, qb7, qb8, qb9, qca, qcb, qcc, qcd, qce, qcg, qch, qci, qcj, qix, qiw, qiy, qg8, qhg, qhh, qe0, qai, qiq, nI, qcw, qcu, Bool.not_true, Bool.not_false, Bool.and_true, Bool.true_and, Bool.and_false, Bool.false_and, Bool.or_true, Bool.true_or, Bool.or_false, Bool.false_or, beq_self_eq_true, dTT, dFF, dT, dF, bigI, big0, qg7, qi9, qja, List.length_set, List.length_replicate, Int.toNat_natCast, qb1, qb2, imax, imin]
      exact qga k hk fu z z' l hl n (i + 1) (by omega) (by omega)
    · simp (disch := omega) only [qah, nth0, nth1, nth2, nth3, bit, qb3, qb4, qcf, qck, qcl, qcm, qcn, qco, qcp, qcq, qb5, qb6, qb7, qb8, qb9, qca, qcb, qcc, qcd, qce, qcg, qch, qci, qcj, qix, qiw, qiy, qg8, qhg, qhh, qe0, qai, qiq, nI, qcw, qcu, Bool.not_true, Bool.not_false, Bool.and_true, Bool.true_and, Bool.and_false, Bool.false_and, Bool.or_true, Bool.true_or, Bool.or_false, Bool.false_or, beq_self_eq_true, dTT, dFF, dT, dF, bigI, big0, qg7, qi9, qja, List.length_set, List.length_replicate, Int.toNat_natCast, qb1, qb2, imax, imin]
theorem qa6 (k : Nat) (hk : 2000000 ≤ k) (z z' : Bool) (l : List Int) (hl : (l.length : Int) ≤ 1048576) : go (k + 1) laws_eqIntS [.arr false z (.ints .i64 l), .arr false z' (.ints .i64 l)] = some [.bool true] := by
  rw [qdn]
  simp (disch := omega) only [qah, nth0, nth1, nth2, nth3, bit, qb3, qb4, qcf, qck, qcl, qcm, qcn, qco, qcp, qcq, qb5, qb6, qb7, qb8, qb9, qca, qcb, qcc, qcd, qce, qcg, qch, qci, qcj, qix, qiw, qiy, qg8, qhg, qhh, qe0, qai, qiq, nI, qcw, qcu, Bool.not_true, Bool.not_false, Bool.and_true, Bool.true_and, Bool.and_false, Bool.false_and, Bool.or_true, Bool.true_or, Bool.or_false, Bool.false_or, beq_self_eq_true, dTT, dFF, dT, dF, bigI, big0, qg7, qi9, qja, List.length_set, List.length_replicate, Int.toNat_natCast, qb1, qb2, imax, imin]
  exact qga k hk [] z z' l hl _ 0 (by omega) (by omega)
theorem qgc (k : Nat) (hk : 2000000 ≤ k) (fu : List (Nat × Nat)) (az : Bool) (a : List Cell) (z : Bool) (L : Nat) (hl : (L : Int) ≤ 1048576) : ∀ (n i : Nat) (l : List Cell) (b : Int), l.length = L → i ≤ L → 0 ≤ b → b ≤ 8796093022208 + 3 * i → L - i < n →
    ∃ l', lp k laws_markIdS [(.arr true (az) (.r3 (a)))] fu 2 (n) (qhz b (i : Int) z l) = some [.int .i64 (b + 3 * (L - i : Nat)), .arr true z (.r3 l')]
  | 0, i, l, b, hL, hi, h0, hb, hn => by omega
  | n + 1, i, l, b, hL, hi, h0, hb, hn => by
    rw [qfd]
    by_cases h : i < L
    · simp (disch := omega) only [qah, nth0, nth1, nth2, nth3, bit, qb3, qb4, qcf, qck, qcl, qcm, qcn, qco, qcp, qcq, qb5, qb6, qb7, qb8, qb9, qca, qcb, qcc, qcd, qce, qcg, qch, qci, qcj, qix, qiw, qiy, qg8, qhg, qhh, qe0, qai, qiq, nI, qcw, qcu, Bool.not_true, Bool.not_false, Bool.and_true, Bool.true_and, Bool.and_false, Bool.false_and, Bool.or_true, Bool.true_or, Bool.or_false, Bool.false_or, beq_self_eq_true, dTT, dFF, dT, dF, bigI, big0, qg7, qi9, qja, List.length_set, List.length_replicate, Int.toNat_natCast, qb1, qb2, imax, imin]
      obtain ⟨l', e⟩ := qgc k hk fu az a z L hl n (i + 1) (List.set (List.set (List.set l i (b, Prod.fst (Prod.snd (List.getD l i zz3)), Prod.snd (Prod.snd (List.getD l i zz3)))) i (Prod.fst (List.getD (List.set l i (b, Prod.fst (Prod.snd (List.getD l i zz3)), Prod.snd (Prod.snd (List.getD l i zz3)))) i zz3), b + 1, Prod.snd (Prod.snd (List.getD (List.set l i (b, Prod.fst (Prod.snd (List.getD l i zz3)), Prod.snd (Prod.snd (List.getD l i zz3)))) i zz3)))) i (Prod.fst (List.getD (List.set (List.set l i (b, Prod.fst (Prod.snd (List.getD l i zz3)), Prod.snd (Prod.snd (List.getD l i zz3)))) i (Prod.fst (List.getD (List.set l i (b, Prod.fst (Prod.snd (List.getD l i zz3)), Prod.snd (Prod.snd (List.getD l i zz3)))) i zz3), b + 1, Prod.snd (Prod.snd (List.getD (List.set l i (b, Prod.fst (Prod.snd (List.getD l i zz3)), Prod.snd (Prod.snd (List.getD l i zz3)))) i zz3)))) i zz3), Prod.fst (Prod.snd (List.getD (List.set (List.set l i (b, Prod.fst (Prod.snd (List.getD l i zz3)), Prod.snd (Prod.snd (List.getD l i zz3)))) i (Prod.fst (List.getD (List.set l i (b, Prod.fst (Prod.snd (List.getD l i zz3)), Prod.snd (Prod.snd (List.getD l i zz3)))) i zz3), b + 1, Prod.snd (Prod.snd (List.getD (List.set l i (b, Prod.fst (Prod.snd (List.getD l i zz3)), Prod.snd (Prod.snd (List.getD l i zz3)))) i zz3)))) i zz3)), b + 1 + 1)) (b + 1 + 1 + 1) (by simp [hL]) (by omega) (by omega) (by omega) (by omega)
      rw [e]
      exact ⟨l', by rw [show b + 1 + 1 + 1 + 3 * ((L - (i + 1) : Nat) : Int) = b + 3 * ((L - i : Nat) : Int) by omega]⟩
    · simp (disch := omega) only [qah, nth0, nth1, nth2, nth3, bit, qb3, qb4, qcf, qck, qcl, qcm, qcn, qco, qcp, qcq, qb5, qb6, qb7, qb8, qb9, qca, qcb, qcc, qcd, qce, qcg, qch, qci, qcj, qix, qiw, qiy, qg8, qhg, qhh, qe0, qai, qiq, nI, qcw, qcu, Bool.not_true, Bool.not_false, Bool.and_true, Bool.true_and, Bool.and_false, Bool.false_and, Bool.or_true, Bool.true_or, Bool.or_false, Bool.false_or, beq_self_eq_true, dTT, dFF, dT, dF, bigI, big0, qg7, qi9, qja, List.length_set, List.length_replicate, Int.toNat_natCast, qb1, qb2, imax, imin]
      exact ⟨l, by rw [show b + 3 * ((L - i : Nat) : Int) = b by omega]⟩
theorem qbb (k : Nat) (hk : 2000000 ≤ k) (az : Bool) (a : List (Int × Int × Int)) (b : Int) (hl : (a.length : Int) ≤ 1048576) (h0 : 0 ≤ b) (hb : b ≤ 8796093022208) : ∃ l', go (k + 1) laws_markIdS [(.arr true (az) (.r3 (a))), (.int .i64 (b))] = some [.int .i64 (b + 3 * a.length), .arr true az (.r3 l')] := by
  rw [qds]
  obtain ⟨l', e⟩ := qgc k hk [] az a az a.length hl k 0 a b rfl (by omega) h0 (by omega) (by omega)
  exact qgc k hk [] az a az a.length hl _ 0 a b rfl (by omega) h0 (by omega) (by omega)
def marks (b : Int) : Nat → List Int
  | 0 => []
  | n + 1 => b :: marks (b + 1) n
theorem qgt : ∀ (n : Nat) (b : Int), (marks b n).length = n
  | 0, b => rfl
  | n + 1, b => by simp [marks, qgt n]
theorem qgs : ∀ (n i : Nat) (b : Int), i < n → (marks b n).getD i 0 = b + i
  | 0, i, b, h => by omega
  | n + 1, 0, b, h => by simp [marks]
  | n + 1, i + 1, b, h => by
    have := qgs n i (b + 1) (by omega)
    simp only [marks, List.getD_cons_succ, this]; omega
theorem qgd (k : Nat) (hk : 2000000 ≤ k) (fu : List (Nat × Nat)) (az : Bool) (a : List Int) (z : Bool) (L : Nat) (hl : (L : Int) ≤ 1048576) : ∀ (n i : Nat) (l : List Int) (b : Int), l.length = L → i ≤ L → 0 ≤ b → b ≤ 8796093022208 + i → L - i < n →
    lp k laws_markIntS [(.arr true (az) (.ints .i64 (a)))] fu 2 (n) (qh0 b (i : Int) z l) = some [.int .i64 (b + (L - i : Nat)), .arr true z (.ints .i64 (l.take i ++ marks b (L - i)))]
  | 0, i, l, b, hL, hi, h0, hb, hn => by omega
  | n + 1, i, l, b, hL, hi, h0, hb, hn => by
    rw [qfe]
    by_cases h : i < L
    · simp (disch := omega) only [qah, nth0, nth1, nth2, nth3, bit, qb3, qb4, qcf, qck, qcl, qcm, qcn, qco, qcp, qcq, qb5, qb6, qb7, qb8, qb9, qca, qcb, qcc, qcd, qce, qcg, qch, qci, qcj, qix, qiw, qiy, qg8, qhg, qhh, qe0, qai, qiq, nI, qcw, qcu, Bool.not_true, Bool.not_false, Bool.and_true, Bool.true_and, Bool.and_false, Bool.false_and, Bool.or_true, Bool.true_or, Bool.or_false, Bool.false_or, beq_self_eq_true, dTT, dFF, dT, dF, bigI, big0, qg7, qi9, qja, List.length_set, List.length_replicate, Int.toNat_natCast, qb1, qb2, imax, imin]
      rw [qgd k hk fu az a z L hl n (i + 1) (l.set i b) (b + 1) (by simp [hL]) (by omega) (by omega) (by omega) (by omega)]
      rw [qij l l i b _ (by omega), show L - i = (L - (i + 1)) + 1 by omega]
      simp only [marks]
      rw [show b + 1 + ((L - (i + 1) : Nat) : Int) = b + ((L - (i + 1) + 1 : Nat) : Int) by omega]
    · simp (disch := omega) only [qah, nth0, nth1, nth2, nth3, bit, qb3, qb4, qcf, qck, qcl, qcm, qcn, qco, qcp, qcq, qb5, qb6, qb7, qb8, qb9, qca, qcb, qcc, qcd, qce, qcg, qch, qci, qcj, qix, qiw, qiy, qg8, qhg, qhh, qe0, qai, qiq, nI, qcw, qcu, Bool.not_true, Bool.not_false, Bool.and_true, Bool.true_and, Bool.and_false, Bool.false_and, Bool.or_true, Bool.true_or, Bool.or_false, Bool.false_or, beq_self_eq_true, dTT, dFF, dT, dF, bigI, big0, qg7, qi9, qja, List.length_set, List.length_replicate, Int.toNat_natCast, qb1, qb2, imax, imin]
      rw [show L - i = 0 by omega]
      simp only [marks, List.append_nil]
      rw [List.take_of_length_le (by omega)]
      simp
theorem qbc (k : Nat) (hk : 2000000 ≤ k) (az : Bool) (a : List Int) (b : Int) (hl : (a.length : Int) ≤ 1048576) (h0 : 0 ≤ b) (hb : b ≤ 8796093022208) : go (k + 1) laws_markIntS [(.arr true (az) (.ints .i64 (a))), (.int .i64 (b))] = some [.int .i64 (b + a.length), .arr true az (.ints .i64 (marks b a.length))] := by
  rw [qdt]
  have e := qgd k hk [] az a az a.length hl k 0 a b rfl (by omega) h0 (by omega) (by omega)
  simpa using e
theorem qgb (k : Nat) (hk : 2000000 ≤ k) (fu : List (Nat × Nat)) (z : Bool) (L : Nat) (b0 : Int) (hl : (L : Int) ≤ 1048576) (h0 : 0 ≤ b0) (hb : b0 ≤ 8796093022208) : ∀ (n i : Nat), i ≤ L → L - i < n →
    lp k laws_heldIntS [] fu 2 (n) (qhy (b0 + (i : Int)) (i : Int) z (marks b0 L)) = some [.int .i64 (b0 + L)]
  | 0, i, hi, hn => by omega
  | n + 1, i, hi, hn => by
    rw [qfc]
    simp only [qgt]
    by_cases h : i < L
    · simp (disch := omega) only [qah, nth0, nth1, nth2, nth3, bit, qb3, qb4, qcf, qck, qcl, qcm, qcn, qco, qcp, qcq, qb5, qb6, qb7, qb8, qb9, qca, qcb, qcc, qcd, qce, qcg, qch, qci, qcj, qix, qiw, qiy, qg8, qhg, qhh, qe0, qai, qiq, nI, qcw, qcu, Bool.not_true, Bool.not_false, Bool.and_true, Bool.true_and, Bool.and_false, Bool.false_and, Bool.or_true, Bool.true_or, Bool.or_false, Bool.false_or, beq_self_eq_true, dTT, dFF, dT, dF, bigI, big0, qg7, qi9, qja, List.length_set, List.length_replicate, Int.toNat_natCast, qb1, qb2, imax, imin, qgs]
      have := qgb k hk fu z L b0 hl h0 hb n (i + 1) (by omega) (by omega)
      rw [show b0 + ((i + 1 : Nat) : Int) = b0 + (i : Int) + 1 by omega] at this
      exact this
    · simp (disch := omega) only [qah, nth0, nth1, nth2, nth3, bit, qb3, qb4, qcf, qck, qcl, qcm, qcn, qco, qcp, qcq, qb5, qb6, qb7, qb8, qb9, qca, qcb, qcc, qcd, qce, qcg, qch, qci, qcj, qix, qiw, qiy, qg8, qhg, qhh, qe0, qai, qiq, nI, qcw, qcu, Bool.not_true, Bool.not_false, Bool.and_true, Bool.true_and, Bool.and_false, Bool.false_and, Bool.or_true, Bool.true_or, Bool.or_false, Bool.false_or, beq_self_eq_true, dTT, dFF, dT, dF, bigI, big0, qg7, qi9, qja, List.length_set, List.length_replicate, Int.toNat_natCast, qb1, qb2, imax, imin]
      rw [show i = L by omega]
theorem qba (k : Nat) (hk : 2000000 ≤ k) (z : Bool) (L : Nat) (b0 : Int) (hl : (L : Int) ≤ 1048576) (h0 : 0 ≤ b0) (hb : b0 ≤ 8796093022208) : go (k + 1) laws_heldIntS [.arr false z (.ints .i64 (marks b0 L)), .int .i64 b0] = some [.int .i64 (b0 + L)] := by
  rw [qdr]
  have e := qgb k hk [] z L b0 hl h0 hb k 0 (by omega) (by omega)
  simpa using e
end Go.Proofs.Ytcaapedadpnjoaa
end
section
namespace Go.Proofs.Ytcaapedadpnjoaa
open Go Go.RowKit Go.Ev
abbrev zFr : List RK := [.n, .n, .r3, .n, .n, .n, .is]
def cpFr : List RC → List RC
  | [.n a, .n b, .r3 _ l, .n c, .n d, .n e, .is _ m] => [.n a, .n b, .r3 false l, .n c, .n d, .n e, .is false m]
  | r => r
def dsO : List RC → List D
  | [] => []
  | .n x :: r => .int .i64 x :: dsO r
  | .is nil l :: r => .arr true nil (.ints .i64 l) :: dsO r
  | .r3 nil l :: r => .arr true nil (.r3 l) :: dsO r
theorem qhk : ∀ r : List RC, ros (dsO r) = dsR r
  | [] => rfl
  | .n x :: r => by rw [dsO, dsR, ros, qhk r]; rfl
  | .is nil l :: r => by rw [dsO, dsR, ros, qhk r]; rfl
  | .r3 nil l :: r => by rw [dsO, dsR, ros, qhk r]; rfl
theorem qhc {w : World} {b off : Nat} : ∀ (r : List RC) {us : List Value} {F : Feet}, RepDs w (dsO r) us F → innR (zsR r) us b off → ownOf F b off
  | [], us, F, h, hi => by simp only [zsR, innR] at hi
  | .n x :: r, us, F, h, hi => by
    simp only [dsO, RepDs, RepD] at h
    obtain ⟨u, us', F1, F2, rfl, rfl, ⟨rfl, rfl⟩, h2⟩ := h
    simp only [zsR, innR, kspan, false_or] at hi
    obtain ⟨A, hA, h1, h3⟩ := qhc r h2 hi
    exact ⟨A, by simp [hA], h1, h3⟩
  | .is nil l :: r, us, F, h, hi => by
    simp only [dsO, RepDs, RepD] at h
    obtain ⟨u, us', F1, F2, rfl, rfl, ⟨p, rfl, hr, rfl⟩, h2⟩ := h
    simp only [zsR, innR, kspan] at hi
    rcases hi with ⟨x, n, c, e, hb, _⟩ | hi
    · exact ⟨(true, foot p (.arr true nil (.ints .i64 l))), by simp, rfl, by
        injection e with e1 e2 e3
        exact ⟨x, e1, hb, .inl rfl⟩⟩
    · obtain ⟨A, hA, h1, h3⟩ := qhc r h2 hi
      exact ⟨A, by simp [hA], h1, h3⟩
  | .r3 nil l :: r, us, F, h, hi => by
    simp only [dsO, RepDs, RepD] at h
    obtain ⟨u, us', F1, F2, rfl, rfl, ⟨p, rfl, hr, rfl⟩, h2⟩ := h
    simp only [zsR, innR, kspan] at hi
    rcases hi with ⟨x, n, c, e, hb, _⟩ | hi
    · exact ⟨(true, foot p (.arr true nil (.r3 l))), by simp, rfl, by
        injection e with e1 e2 e3
        exact ⟨x, e1, hb, .inl rfl⟩⟩
    · obtain ⟨A, hA, h1, h3⟩ := qhc r h2 hi
      exact ⟨A, by simp [hA], h1, h3⟩
end Go.Proofs.Ytcaapedadpnjoaa
end
section
namespace Go.Proofs.Ytcaapedadpnjoaa
open Go Go.RowKit Go.Ev
theorem qeu {w : World} {b o : Nat} {vs : List Value} (ht : w.there b o vs.length) (h1 : ∀ u ∈ vs, u.oneCell' = true) : Fr (Span b o vs.length) w (w.setCells b o vs) := by
  obtain ⟨w', hr, hf, _⟩ := storeCells_ok (P := Try.prog) ⟨b, o, none⟩ rfl vs 0 w (fun j hj => by
    rw [Addr.add_mid, Nat.zero_add]
    exact ⟨Option.isSome_iff_exists.1 (ht j hj).1, (ht j hj).2⟩) h1
  have e := run_storeCells_cells (P := Try.prog) b o vs 0 w (fun j hj => (ht j hj).1) (fun j hj => (ht j hj).2) h1
  rw [e] at hr
  cases hr
  exact hf
theorem qet {M : Nat → Nat → Prop} {w w' : World} (f : Fr M w w') (hm : ∀ b off, b < w.heap.size → ¬ M b off) : RowKit.Below w.heap.size w w' :=
  Fr.below (f.mono fun b off hb h => hm b off hb h)
theorem qhi {N b o : Nat} {cs : List Value} {w w' : World} (h : RowKit.Below N w w') (hb : b < N) (r : w.rangeAt b o cs) : w'.rangeAt b o cs := fun j v hv => (h.cell (p := ⟨b, o + j, none⟩) hb).trans (r j v hv)
theorem qis {M : Nat → Nat → Prop} {b o n : Nat} {w w' : World} (h : RowKit.Below w.heap.size w w') (r : w.there b o n) : w'.there b o n := fun j hj => by
  obtain ⟨v, hv⟩ := Option.isSome_iff_exists.1 (r j hj).1
  have hb := World.block_lt_of_cell? w _ hv
  refine ⟨?_, ?_⟩
  · rw [h.cell hb, hv]; rfl
  · have f : Fr (fun _ _ => False) w w' := fr_of_below h
    rw [f.frozen hb]; exact (r j hj).2
def TfsI (w : World) (l : List (List RC)) (k : Nat) (wr : World) : Prop := ∃ uss : List (List Value), RowsL wr zFr uss ((l.take k).map cpFr) ∧ wr.rangeAt w.heap.size 0 uss.flatten ∧ wr.there w.heap.size 0 (l.length * 7) ∧
  (∀ us ∈ uss, ∀ b off, innR zFr us b off → w.heap.size < b) ∧ Fr (fun b _ => b = w.heap.size) w wr ∧ w.heap.size < wr.heap.size
theorem qit {w : World} {b o n m : Nat} (h : w.there b 0 n) (hm : o + m ≤ n) : w.there b o m := fun j hj => by
  have := h (o + j) (by omega)
  rwa [Nat.zero_add] at this
theorem TfsI.step {w wr W : World} {l : List (List RC)} {k : Nat} {vs : List Value} (I : TfsI w l k wr) (hk : k < l.length) (hb : RowKit.Below wr.heap.size wr W) (hv : RowL W zFr vs (cpFr (l.getD k []))) (hn : ∀ b off, innR zFr vs b off → wr.heap.size ≤ b) :
    W.there w.heap.size (k * 7) vs.length ∧ (∀ u ∈ vs, u.oneCell' = true) ∧ TfsI w l (k + 1) (W.setCells w.heap.size (k * 7) vs) := by
  obtain ⟨uss, hR, hC, hT, hI, hF, hS⟩ := I
  have h1 := hv.one
  have v7 : vs.length = 7 := hv.len.1
  have hT' := qis (M := fun _ _ => False) hb hT
  have hT2 : W.there w.heap.size (k * 7) vs.length := qit hT' (by rw [v7]; omega)
  have fs := qeu hT2 h1
  have tk : (l.take k).length = k := by rw [List.length_take]; omega
  have ul : uss.flatten.length = k * 7 := by
    have := hR.flat
    rw [List.length_map, tk] at this
    exact this
  have e : (l.take (k + 1)).map cpFr = (l.take k).map cpFr ++ [cpFr (l.getD k [])] := by
    rw [List.take_succ_eq_append_getElem hk, List.map_append]
    simp [hk]
  refine ⟨hT2, h1, uss ++ [vs], ?_, ?_, World.there_setCells hT' _ _ _, ?_, ?_, ?_⟩
  · rw [e]
    have g1 : RowsL W zFr uss ((l.take k).map cpFr) := hR.frame (N := fun _ _ => False) (fr_of_below hb) fun _ _ _ h => h
    have g2 : RowsL (W.setCells w.heap.size (k * 7) vs) zFr uss ((l.take k).map cpFr) := g1.frame fs fun b off ⟨us, hu, h⟩ hs => by
      have := hI us hu b off h
      have := hs.1
      omega
    have g3 : RowL (W.setCells w.heap.size (k * 7) vs) zFr vs (cpFr (l.getD k [])) := hv.frame fs fun b off h hs => by
      have := hn b off h
      have := hs.1
      omega
    exact RowsL.app (vss := [vs]) ⟨_, [], rfl, g3, rfl⟩ g2
  · rw [List.flatten_append]
    have a1 := World.rangeAt_setCells_apart (qhi hb hS hC) w.heap.size (k * 7) vs (.inr (.inl (by omega)))
    have a2 := World.rangeAt_setCells_same W w.heap.size (k * 7) vs hT2
    intro j v hj
    by_cases hlt : j < uss.flatten.length
    · rw [List.getElem?_append_left hlt] at hj
      exact a1 j v hj
    · rw [List.getElem?_append_right (by omega)] at hj
      have := a2 (j - uss.flatten.length) v (by simpa using hj)
      rwa [show k * 7 + (j - uss.flatten.length) = 0 + j by omega] at this
  · intro us hu b off h
    rcases List.mem_append.1 hu with hu | hu
    · exact hI us hu b off h
    · rw [List.mem_singleton] at hu
      subst hu
      have := hn b off h
      omega
  · exact hF.trans ((fr_of_below hb).trans (fs.mono fun b off _ h => h.1))
  · have := hb.size; have := fs.size; omega
end Go.Proofs.Ytcaapedadpnjoaa
end
section
namespace Go.Proofs.Ytcaapedadpnjoaa
open Go.Ev
set_option maxRecDepth 20000
theorem qd3 (k : Nat) (a0 : Int) (a1z : Bool) (a1 : List (Int × Int × Int)) (a2z : Bool) (a2 : List Int) (a3z : Bool) (a3 : List Int) (a4z : Bool) (a4 : List Int) : go (k + 1) laws_toState [(.agg [(.int .i64 (a0)), (.arr false (a1z) (.r3 (a1))), (.arr false (a2z) (.ints .i64 (a2))), (.arr false (a3z) (.ints .i64 (a3))), (.arr false (a4z) (.ints .i64 (a4)))])] =
 (go k laws_toMesh [(.agg [(.int .i64 (a0)), (.arr false (a1z) (.r3 (a1)))])]).bind fun r0 =>
 (go k laws_toIntS [(.arr false (a2z) (.ints .i64 (a2)))]).bind fun r1 =>
 (go k laws_toIntS [(.arr false (a3z) (.ints .i64 (a3)))]).bind fun r2 =>
 (go k laws_toIntS [(.arr false (a4z) (.ints .i64 (a4)))]).bind fun r3 =>
 some [(.agg [(.int .i64 (D.toInt (D.cell 0 (nth r0 0)))), (.arr true (D.nil (D.cell 1 (nth r0 0))) (.r3 (D.r3 (D.cell 1 (nth r0 0))))), (.arr true (D.nil (nth r1 0)) (.ints .i64 (D.ints (nth r1 0)))), (.arr true (D.nil (nth r2 0)) (.ints .i64 (D.ints (nth r2 0)))), (.arr true (D.nil (nth r3 0)) (.ints .i64 (D.ints (nth r3 0))))])] := by kernel_rfl

end Go.Proofs.Ytcaapedadpnjoaa
end
section
namespace Go.Proofs.Ytcaapedadpnjoaa
open Go Go.RowKit Go.Ev
abbrev zSt : List RK := [.n, .r3, .is, .is, .is]
def okSt : List RC → Bool
  | [.n _, .r3 _ l, .is _ a, .is _ b, .is _ c] => decide ((l.length : Int) ≤ 1048576) && (decide ((a.length : Int) ≤ 1048576) && (decide ((b.length : Int) ≤ 1048576) && decide ((c.length : Int) ≤ 1048576)))
  | _ => false
def cpSt : List RC → List RC
  | [.n r, .r3 _ l, .is _ a, .is _ b, .is _ c] => [.n r, .r3 false l, .is false a, .is false b, .is false c]
  | r => r
theorem qha {r : List RC} (h : okSt r = true) : zsR r = zSt := by
  unfold okSt at h
  split at h
  · rfl
  · cases h
theorem qg9 {r : List RC} (h : okSt r = true) : okSt (cpSt r) = true := by
  unfold okSt at h
  split at h
  · simp only [Bool.and_eq_true, decide_eq_true_eq] at h
    simp only [cpSt, okSt, h, decide_true, Bool.and_true]
  · cases h
theorem qbm (k : Nat) (hk : 2000000 ≤ k) (r : Int) (z1 z2 z3 z4 : Bool) (l : List Cell) (a b c : List Int) (hl : (l.length : Int) ≤ 1048576) (ha : (a.length : Int) ≤ 1048576) (hb : (b.length : Int) ≤ 1048576) (hc : (c.length : Int) ≤ 1048576) :
    go (k + 4) laws_toState [.agg [.int .i64 r, .arr false z1 (.r3 l), .arr false z2 (.ints .i64 a), .arr false z3 (.ints .i64 b), .arr false z4 (.ints .i64 c)]] = some [.agg [.int .i64 r, .arr true false (.r3 l), .arr true false (.ints .i64 a), .arr true false (.ints .i64 b), .arr true false (.ints .i64 c)]] := by
  rw [qd3]
  simp (disch := omega) only [qah, nth0, nth1, nth2, nth3, bit, qb3, qb4, qcf, qck, qcl, qcm, qcn, qco, qcp, qcq, qb5, qb6, qb7, qb8, qb9, qca, qcb, qcc, qcd, qce, qcg, qch, qci, qcj, qix, qiw, qiy, qg8, qhg, qhh, qe0, qai, qiq, nI, qcw, qcu, Bool.not_true, Bool.not_false, Bool.and_true, Bool.true_and, Bool.and_false, Bool.false_and, Bool.or_true, Bool.true_or, Bool.or_false, Bool.false_or, beq_self_eq_true, dTT, dFF, dT, dF, bigI, big0, qg7, qi9, qja, List.length_set, List.length_replicate, Int.toNat_natCast, qb1, qb2, imax, imin, qbl, qbk]
def qab (w : World) : Nat → List (List Value) → Nat → Prop
  | lo, [], hi => lo ≤ hi
  | lo, us :: uss, hi => ∃ mid F r, okSt r = true ∧ RepDs w (dsO r) us F ∧ Sep F ∧ (∀ b off, ownOf F b off → lo ≤ b ∧ b < mid) ∧ lo ≤ mid ∧ qab w mid uss hi
theorem qab.le {w : World} : ∀ {uss : List (List Value)} {lo hi : Nat}, qab w lo uss hi → lo ≤ hi
  | [], lo, hi, h => h
  | us :: uss, lo, hi, ⟨mid, _, _, _, _, _, _, h1, h2⟩ => Nat.le_trans h1 h2.le
theorem qc2 {w : World} : ∀ (r : List RC) {us : List Value} {F : Feet}, RepDs w (dsO r) us F → ∀ A ∈ F, A.1 = true
  | [], us, F, h => by simp only [dsO, RepDs] at h; obtain ⟨_, rfl⟩ := h; intro A hA; cases hA
  | .n x :: r, us, F, h => by
    simp only [dsO, RepDs, RepD] at h
    obtain ⟨u, us', F1, F2, rfl, rfl, ⟨rfl, rfl⟩, h2⟩ := h
    exact qc2 r h2
  | .is nil l :: r, us, F, h => by
    simp only [dsO, RepDs, RepD] at h
    obtain ⟨u, us', F1, F2, rfl, rfl, ⟨p, rfl, hr, rfl⟩, h2⟩ := h
    intro A hA
    rcases List.mem_append.1 hA with hA | hA
    · rw [List.mem_singleton.1 hA]
    · exact qc2 r h2 A hA
  | .r3 nil l :: r, us, F, h => by
    simp only [dsO, RepDs, RepD] at h
    obtain ⟨u, us', F1, F2, rfl, rfl, ⟨p, rfl, hr, rfl⟩, h2⟩ := h
    intro A hA
    rcases List.mem_append.1 hA with hA | hA
    · rw [List.mem_singleton.1 hA]
    · exact qc2 r h2 A hA
theorem qc1 {w : World} {b off : Nat} : ∀ (r : List RC) {us : List Value} {F : Feet}, RepDs w (dsO r) us F → ownOf F b off → b < w.heap.size
  | [], us, F, h, ⟨A, hA, _⟩ => by simp only [dsO, RepDs] at h; obtain ⟨_, rfl⟩ := h; cases hA
  | .n x :: r, us, F, h, ho => by
    simp only [dsO, RepDs, RepD] at h
    obtain ⟨u, us', F1, F2, rfl, rfl, ⟨rfl, rfl⟩, h2⟩ := h
    exact qc1 r h2 ho
  | .is nil l :: r, us, F, h, ⟨A, hA, h1, h3⟩ => by
    simp only [dsO, RepDs, RepD] at h
    obtain ⟨u, us', F1, F2, rfl, rfl, ⟨p, rfl, hr, rfl⟩, h2⟩ := h
    rcases List.mem_append.1 hA with hA | hA
    · rw [List.mem_singleton.1 hA] at h3; exact hr.lt' b off h3
    · exact qc1 r h2 ⟨A, hA, h1, h3⟩
  | .r3 nil l :: r, us, F, h, ⟨A, hA, h1, h3⟩ => by
    simp only [dsO, RepDs, RepD] at h
    obtain ⟨u, us', F1, F2, rfl, rfl, ⟨p, rfl, hr, rfl⟩, h2⟩ := h
    rcases List.mem_append.1 hA with hA | hA
    · rw [List.mem_singleton.1 hA] at h3; exact hr.lt' b off h3
    · exact qc1 r h2 ⟨A, hA, h1, h3⟩
theorem qab.frame {w w' : World} {N : Nat → Nat → Prop} (f : Fr N w w') : ∀ {uss : List (List Value)} {lo hi : Nat}, qab w lo uss hi → (∀ b off, lo ≤ b → b < hi → ¬ N b off) → qab w' lo uss hi
  | [], lo, hi, h, hn => h
  | us :: uss, lo, hi, ⟨mid, F, r, hz, h1, h2, h3, h4, h5⟩, hn => by
    refine ⟨mid, F, r, hz, RepDs.frame f _ h1 fun A hA b off hb => ?_, h2, h3, h4, h5.frame f fun b off hb hb' => hn b off (by omega) hb'⟩
    have := h3 b off ⟨A, hA, qc2 r h1 A hA, hb⟩
    have := h5.le
    exact hn b off (by omega) (by omega)
theorem qab.snoc {w : World} {us : List Value} {F : Feet} {r : List RC} {h1 hi : Nat} (hz : okSt r = true) (hr : RepDs w (dsO r) us F) (hs : Sep F) (hb : ∀ b off, ownOf F b off → h1 ≤ b ∧ b < hi) (hle : h1 ≤ hi) : ∀ {uss : List (List Value)} {lo : Nat}, qab w lo uss h1 → qab w lo (uss ++ [us]) hi
  | [], lo, h => ⟨hi, F, r, hz, hr, hs, fun b off ho => by have := hb b off ho; have h : lo ≤ h1 := h; omega, by have h : lo ≤ h1 := h; omega, Nat.le_refl _⟩
  | us' :: uss, lo, ⟨mid, G, q, k1, k2, k3, k4, k5, k6⟩ => ⟨mid, G, q, k1, k2, k3, k4, k5, k6.snoc hz hr hs hb hle⟩
end Go.Proofs.Ytcaapedadpnjoaa
end
section
namespace Go.Proofs.Ytcaapedadpnjoaa
open Go Go.RowKit Go.Ev
def TssI (w : World) (l : List (List RC)) (k : Nat) (wr : World) : Prop := ∃ uss : List (List Value), RowsL wr zSt uss ((l.take k).map cpSt) ∧ wr.rangeAt w.heap.size 0 uss.flatten ∧ wr.there w.heap.size 0 (l.length * 5) ∧
  qab wr (w.heap.size + 1) uss wr.heap.size ∧ Fr (fun b _ => b = w.heap.size) w wr ∧ w.heap.size < wr.heap.size
theorem qab.inn {w : World} {b off : Nat} : ∀ {uss : List (List Value)} {lo hi : Nat}, qab w lo uss hi → ∀ us ∈ uss, innR zSt us b off → lo ≤ b ∧ b < hi
  | [], lo, hi, h, us, hu, hi' => by cases hu
  | us' :: uss, lo, hi, ⟨mid, F, r, hz, h1, h2, h3, h4, h5⟩, us, hu, hi' => by
    rcases List.mem_cons.1 hu with rfl | hu
    · rw [← qha hz] at hi'
      have := h3 b off (qhc r h1 hi')
      have := h5.le
      omega
    · have := h5.inn us hu hi'
      omega
theorem qab.up {w : World} : ∀ {uss : List (List Value)} {lo hi hi' : Nat}, qab w lo uss hi → hi ≤ hi' → qab w lo uss hi'
  | [], lo, hi, hi', h, hh => Nat.le_trans h hh
  | us :: uss, lo, hi, hi', ⟨mid, F, r, hz, h1, h2, h3, h4, h5⟩, hh => ⟨mid, F, r, hz, h1, h2, h3, h4, h5.up hh⟩
theorem TssI.step {w wr W : World} {l : List (List RC)} {k : Nat} {vs : List Value} {F : Feet} (I : TssI w l k wr) (hk : k < l.length) (hb : RowKit.Below wr.heap.size wr W) (hz : okSt (cpSt (l.getD k [])) = true) (hv : RepDs W (dsO (cpSt (l.getD k []))) vs F) (hs : Sep F) (hn : ∀ b off, ownOf F b off → wr.heap.size ≤ b) :
    W.there w.heap.size (k * 5) vs.length ∧ (∀ u ∈ vs, u.oneCell' = true) ∧ vs.length = 5 ∧ TssI w l (k + 1) (W.setCells w.heap.size (k * 5) vs) := by
  obtain ⟨uss, hR, hC, hT, hO, hF, hS⟩ := I
  have hv' : RowL W zSt vs (cpSt (l.getD k [])) := by
    obtain ⟨G, hG, _⟩ := RepDs.ro _ hv
    rw [qhk] at hG
    rw [← qha hz]
    exact row_of_ds _ hG
  have h1 := hv'.one
  have v7 : vs.length = 5 := hv'.len.1
  have hT' := qis (M := fun _ _ => False) hb hT
  have hT2 : W.there w.heap.size (k * 5) vs.length := qit hT' (by rw [v7]; omega)
  have fs := qeu hT2 h1
  have tk : (l.take k).length = k := by rw [List.length_take]; omega
  have ul : uss.flatten.length = k * 5 := by
    have := hR.flat
    rw [List.length_map, tk] at this
    exact this
  have e : (l.take (k + 1)).map cpSt = (l.take k).map cpSt ++ [cpSt (l.getD k [])] := by
    rw [List.take_succ_eq_append_getElem hk, List.map_append]
    simp [hk]
  have oW : qab W (w.heap.size + 1) uss wr.heap.size := hO.frame (N := fun _ _ => False) (fr_of_below hb) fun _ _ _ _ h => h
  have vlt : ∀ b off, ownOf F b off → wr.heap.size ≤ b ∧ b < W.heap.size := fun b off ho => ⟨hn b off ho, qc1 _ hv ho⟩
  have oW2 : qab W (w.heap.size + 1) (uss ++ [vs]) W.heap.size := oW.snoc hz hv hs vlt hb.size
  refine ⟨hT2, h1, v7, uss ++ [vs], ?_, ?_, World.there_setCells hT' _ _ _, ?_, ?_, ?_⟩
  · rw [e]
    have g1 : RowsL W zSt uss ((l.take k).map cpSt) := hR.frame (N := fun _ _ => False) (fr_of_below hb) fun _ _ _ h => h
    have g2 : RowsL (W.setCells w.heap.size (k * 5) vs) zSt uss ((l.take k).map cpSt) := g1.frame fs fun b off ⟨us, hu, h⟩ hs => by
      have := oW.inn us hu h
      have := hs.1
      omega
    have g3 : RowL (W.setCells w.heap.size (k * 5) vs) zSt vs (cpSt (l.getD k [])) := hv'.frame fs fun b off h hs => by
      rw [← qha hz] at h
      have := hn b off (qhc _ hv h)
      have := hs.1
      omega
    exact RowsL.app (vss := [vs]) ⟨_, [], rfl, g3, rfl⟩ g2
  · rw [List.flatten_append]
    have a1 := World.rangeAt_setCells_apart (qhi hb hS hC) w.heap.size (k * 5) vs (.inr (.inl (by omega)))
    have a2 := World.rangeAt_setCells_same W w.heap.size (k * 5) vs hT2
    intro j v hj
    by_cases hlt : j < uss.flatten.length
    · rw [List.getElem?_append_left hlt] at hj
      exact a1 j v hj
    · rw [List.getElem?_append_right (by omega)] at hj
      have := a2 (j - uss.flatten.length) v (by simpa using hj)
      rwa [show k * 5 + (j - uss.flatten.length) = 0 + j by omega] at this
  · refine (oW2.frame fs fun b off hb' _ hs => ?_).up fs.size
    have := hs.1
    omega
  · exact hF.trans ((fr_of_below hb).trans (fs.mono fun b off _ h => h.1))
  · have := hb.size; have := fs.size; omega
theorem qiz {r : List RC} (hok : okSt r = true) {W : World} {us : List Value} (hr : RowL W zSt us r) :
    Calls Try.prog 60 #[.agg us.toArray] W fun e W' => ∃ (vs : List Value) (F : Feet), e = .returned (.agg vs.toArray) ∧ okSt (cpSt r) = true ∧ RepDs W' (dsO (cpSt r)) vs F ∧ Sep F ∧ (∀ b off, ownOf F b off → W.heap.size ≤ b) ∧ RowKit.Below W.heap.size W W' := by
  have hcp := qg9 hok
  unfold okSt at hok
  split at hok
  · rename_i r0 z1 l z2 a z3 b z4 c
    simp only [Bool.and_eq_true, decide_eq_true_eq] at hok
    obtain ⟨_, F, hF, sF⟩ := ds_of_row hr
    have ct : Contract Try.prog 60 [] [.agg (dsR [.n r0, .r3 z1 l, .is z2 a, .is z3 b, .is z4 c])] [.agg (dsO (cpSt [.n r0, .r3 z1 l, .is z2 a, .is z3 b, .is z4 c]))] := by
      have e1 : ev Try.prog An (2000000 + 4) 60 [.agg (dsR [.n r0, .r3 z1 l, .is z2 a, .is z3 b, .is z4 c])] = some [.agg (dsO (cpSt [.n r0, .r3 z1 l, .is z2 a, .is z3 b, .is z4 c]))] :=
        qbm 2000000 (by omega) r0 z1 z2 z3 z4 l a b c hok.1 hok.2.1 hok.2.2.1 hok.2.2.2
      exact ev_contract good noExt e1
    refine (ct.one (args := #[.agg us.toArray]) (F := F) (by
      simp only [RepDs, RepD]
      exact ⟨_, [], F, [], rfl, (List.append_nil F).symm, ⟨us.toArray, rfl, by simpa using hF⟩, rfl, rfl⟩) sF).mono ?_
    rintro e' W' ⟨v, F', rfl, hv, hs, hn, hb⟩
    simp only [RepD] at hv
    obtain ⟨va, rfl, hv⟩ := hv
    exact ⟨va.toList, F', by simp, hcp, hv, hs, hn, hb⟩
  · cases hok
end Go.Proofs.Ytcaapedadpnjoaa
end
section
namespace Go.Proofs.Ytcaapedadpnjoaa
open Go Go.RowKit Go.Ev
theorem qhl {w wr : World} {x : Addr} {inn : List (List Value)} {l : List (List RC)} {k : Nat} (hR : RowsL w zSt inn l) (hC : CellsL w x inn.flatten) (hk : k < l.length) (hF : Fr (fun b _ => b = w.heap.size) w wr) :
    ∃ (us : List Value) (Ab Ao : Nat), x.add (k * 5) = ⟨Ab, Ao, none⟩ ∧ us.length = 5 ∧ wr.rangeAt Ab Ao us ∧ RowL wr zSt us (l.getD k []) := by
  obtain ⟨h1, h2, h3⟩ := hR.get hk
  have u5 : (inn.getD k []).length = 5 := h1.len.1
  have hc : ∀ j v, (inn.getD k [])[j]? = some v → w.cell? (x.add (k * 5 + j)) = some v := by
    intro j v hj
    rw [← h3] at hj
    rw [List.getElem?_take] at hj
    split at hj
    · rw [List.getElem?_drop] at hj
      exact hC _ v hj
    · cases hj
  obtain ⟨v0, hv0⟩ : ∃ v, (inn.getD k [])[0]? = some v := ⟨_, List.getElem?_eq_getElem (by omega)⟩
  have c0 := hc 0 v0 hv0
  have sp := World.cell?_spot c0
  obtain ⟨Ab, Ao, hA⟩ : ∃ Ab Ao, x.add (k * 5) = ⟨Ab, Ao, none⟩ := by
    rw [Nat.add_zero] at sp
    cases h : x.add (k * 5) with
    | mk b o s => rw [h] at sp; exact ⟨b, o, by rw [show s = none from sp]⟩
  refine ⟨inn.getD k [], Ab, Ao, hA, u5, fun j v hj => ?_, h1.frame hF fun b off h e => ?_⟩
  · have := hc j v hj
    have e : x.add (k * 5 + j) = ⟨Ab, Ao + j, none⟩ := by
      rw [← Addr.add_add, hA, Addr.add_mid]
    rw [e] at this
    have hb := World.block_lt_of_cell? w _ this
    exact hF.cell this fun h => by
      have h : Ab = w.heap.size := h
      have hb : Ab < w.heap.size := hb
      omega
  · have := h1.lt h
    omega
set_option maxRecDepth 100000 in
set_option maxHeartbeats 2000000 in
theorem qi3 {z : Bool} {l : List (List RC)} (hl : l.length ≤ 1048576) (hok : ∀ i, i < l.length → okSt (l.getD i []) = true) (w : World) (sl : Option Addr) (cap : Nat) (inn : List (List Value)) (hR : RowsL w zSt inn l) (hC : ∀ x, sl = some x → CellsL w x inn.flatten) (h0 : sl = none → l.length = 0) (hcap : l.length ≤ cap ∨ sl = none) :
    Calls Try.prog 24 #[.slice sl l.length cap] w fun e w' => e = .returned (.slice (some ⟨w.heap.size, 0, none⟩) l.length l.length) ∧ TssI w l l.length w' := by
  obtain ⟨i, hi, hz, hsz, hby⟩ : ∃ i, Try.prog.info? 33 = some i ∧ i.zero = some (.agg #[.int .i64 0, .slice none 0 0, .slice none 0 0, .slice none 0 0, .slice none 0 0]) ∧ i.size = 5 ∧ i.bytes = 104 := by
    have e : (Try.prog.info? 33).map (fun i => (i.zero, i.size, i.bytes)) = some (some (.agg #[.int .i64 0, .slice none 0 0, .slice none 0 0, .slice none 0 0, .slice none 0 0]), 5, 104) := by kernel_rfl
    obtain ⟨i, h1, h2⟩ := Option.map_eq_some_iff.1 e
    simp only [Prod.mk.injEq] at h2
    exact ⟨i, h1, h2⟩
  obtain ⟨z0, hz0⟩ : ∃ z0 : Value, z0 = .agg #[.int .i64 0, .slice none 0 0, .slice none 0 0, .slice none 0 0, .slice none 0 0] := ⟨_, rfl⟩
  rw [← hz0] at hz
  have hmk := run_make (P := Try.prog) w 24 33 i z0 Try.underlying24 hi hz .i64 .i64 (l.length : Int) (l.length : Int) (by omega) (Int.le_refl _) (by rw [hby]; omega) (by omega)
  rw [Int.toNat_natCast, hsz] at hmk
  obtain ⟨w1, hw1⟩ : ∃ w1, w1 = w.alloc (.cells (madeCells z0.cells (l.length * 5)) 33) := ⟨_, rfl⟩
  rw [← hw1] at hmk
  clear hi hz hsz hby
  go_enter Try.func24, Try.ntmps24
  have I0 : TssI w l 0 w1 := by
    have hh : w1.heap[w.heap.size]? = some (.cells (madeCells z0.cells (l.length * 5)) 33 (0, 0)) := by rw [hw1]; exact heap_alloc_new w _
    refine ⟨[], rfl, (fun j v hj => by simp at hj), (fun j hj => ⟨?_, ?_⟩), (by show w.heap.size + 1 ≤ w1.heap.size; rw [hw1]; simp), (by rw [hw1]; exact (fr_alloc w _).mono fun _ _ _ h => h.elim), (by rw [hw1]; simp)⟩
    · simp only [World.cell?, hh]
      rw [Nat.zero_add, Array.getElem?_eq_getElem (by rw [size_madeCells]; exact hj)]; rfl
    · simp [World.frozen?, hh]
  clear hw1
  go_wp2
  go_loopw [4] (fun i wr => ∃ k : Nat, k ≤ l.length ∧ i = .int .i64 k ∧ TssI w l k wr) (fun i _ => l.length - (RowKit.intOf i).toNat)
  case atStart => exact ⟨0, Nat.zero_le _, rfl, I0⟩
  case round =>
    obtain ⟨k, hkl, rfl, hI⟩ := hrel
    by_cases hlt : k < l.length
    · obtain ⟨x, rfl⟩ : ∃ x, sl = some x := by
        cases h : sl with
        | none => have := h0 h; omega
        | some x => exact ⟨x, rfl⟩
      have hI' := hI
      obtain ⟨_, _, _, _, _, hF, hS⟩ := hI'
      obtain ⟨us, Ab, Ao, hA, u5, hra, hrow⟩ := qhl hR (hC x rfl) hlt hF
      have hcall := qiz (hok k hlt) hrow
      have hload := run_loadAt_mid (P := Try.prog) wr Ab Ao 102 us _ hra Try.underlying102 rfl (by rw [u5]; kernel_rfl)
      go_wp2_with (first | (refine wp_load_mid _ _ rfl Ab Ao (by first | rfl | simp | simp [hA]) us _ hra Try.underlying102 rfl (by rw [u5]; kernel_rfl) ?_) | (refine wpList_load_mid rfl _ _ rfl Ab Ao (by first | rfl | simp | simp [hA]) us _ hra Try.underlying102 rfl (by rw [u5]; kernel_rfl) ?_))
      refine hcall.mono ?_
      rintro e W ⟨vs, F, rfl, hz', hv, hs', hn, hb⟩
      obtain ⟨ht, h1, v5, I2⟩ := hI.step hlt hb hz' hv hs' hn
      have hst := run_storeCells_cells (P := Try.prog) w.heap.size (k * 5) vs 0 W (fun j hj => (ht j hj).1) (fun j hj => (ht j hj).2) h1
      rw [Nat.add_zero] at hst
      clear hcall hload hra hrow ht h1
      go_wp2
      go_roundw
      case rel => exact ⟨k + 1, by omega, by go_num, I2⟩
      case measure => simp [RowKit.intOf]; omega
    · obtain rfl : k = l.length := by omega
      go_wp2
      go_ret
      exact ⟨rfl, hI⟩
end Go.Proofs.Ytcaapedadpnjoaa
end
section
namespace Go.Proofs.Ytcaapedadpnjoaa
open Go Go.RowKit Go.Ev
theorem Contract.marked {P : Program} {f : Nat} {a a' : Arr} {z z' : Bool} {b b' : Int} (h : Contract P f [true] [.arr true z a, .int .i64 b] [.int .i64 b', .arr true z' a']) {w : World} {v : Value} {F : Feet} (hd : RepD w (.arr true z a) v F) :
    Calls P f #[v, .int .i64 b] w fun e w' => e = .returned (.int .i64 b') ∧ Fr (ownOf F) w w' := by
  obtain ⟨fn, _, _, hc⟩ := h
  have hF : ∃ A, F = [A] := by
    simp only [RepD] at hd
    obtain ⟨p, _, _, rfl⟩ := hd
    exact ⟨_, rfl⟩
  obtain ⟨A, rfl⟩ := hF
  refine (hc w #[v, .int .i64 b] [A] (by
    simp only [RepDs]
    exact ⟨v, _, [A], [], rfl, rfl, hd, .int .i64 b, [], [], [], rfl, rfl, by simp [RepD], rfl, rfl⟩) (by simp [Ev.Sep])).mono ?_
  rintro e w' ⟨outs, F', rfl, hl, hrep, hs, hfr, hnew, _⟩
  have hm : muts [true] (#[v, Value.int .i64 b]).toList = [v] := by simp [muts]
  rw [hm] at hrep
  simp only [RepDs, RepD] at hrep
  obtain ⟨u, us, F1, F2, e1, _, ⟨rfl, _⟩, u2, us2, F3, F4, rfl, _, _, rfl, _⟩ := hrep
  cases outs with
  | nil => cases e1
  | cons o outs =>
    cases outs with
    | nil =>
      injection e1 with e1 _
      subst e1
      exact ⟨rfl, hfr⟩
    | cons o2 outs => simp at e1
theorem qgr {W : World} {v : Value} {F : Feet} {z : Bool} {l : List Int} {b : Int} (hd : RepD W (.arr true z (.ints .i64 l)) v F) (hl : (l.length : Int) ≤ 1048576) (h0 : 0 ≤ b) (hb : b ≤ 8796093022208) :
    Calls Try.prog 28 #[v, .int .i64 b] W fun e W' => e = .returned (.int .i64 (b + l.length)) ∧ Fr (ownOf F) W W' := by
  have e1 : ev Try.prog An (2000000 + 1) 28 [.arr true z (.ints .i64 l), .int .i64 b] = some [.int .i64 (b + l.length), .arr true z (.ints .i64 (marks b l.length))] := qbc 2000000 (by omega) z l b hl h0 hb
  exact Contract.marked (ev_contract good noExt e1) hd
theorem qgq {W : World} {v : Value} {F : Feet} {z : Bool} {l : List Cell} {b : Int} (hd : RepD W (.arr true z (.r3 l)) v F) (hl : (l.length : Int) ≤ 1048576) (h0 : 0 ≤ b) (hb : b ≤ 8796093022208) :
    Calls Try.prog 62 #[v, .int .i64 b] W fun e W' => e = .returned (.int .i64 (b + 3 * l.length)) ∧ Fr (ownOf F) W W' := by
  obtain ⟨l', e1⟩ := qbb 2000000 (by omega) z l b hl h0 hb
  have e1 : ev Try.prog An (2000000 + 1) 62 [.arr true z (.r3 l), .int .i64 b] = some [.int .i64 (b + 3 * l.length), .arr true z (.r3 l')] := e1
  exact Contract.marked (ev_contract good noExt e1) hd
theorem qhm {W : World} {r : List RC} (hok : okSt r = true) {us : List Value} {F : Feet} (hr : RepDs W (dsO r) us F) (hs : Ev.Sep F) :
    ∃ (n : Value) (v1 v2 v3 v4 : Value) (F1 F2 F3 F4 : Feet) (z1 z2 z3 z4 : Bool) (l : List Cell) (a b c : List Int), us = [n, v1, v2, v3, v4] ∧ F = F1 ++ (F2 ++ (F3 ++ F4)) ∧
      RepD W (.arr true z1 (.r3 l)) v1 F1 ∧ RepD W (.arr true z2 (.ints .i64 a)) v2 F2 ∧ RepD W (.arr true z3 (.ints .i64 b)) v3 F3 ∧ RepD W (.arr true z4 (.ints .i64 c)) v4 F4 ∧
      (l.length : Int) ≤ 1048576 ∧ (a.length : Int) ≤ 1048576 ∧ (b.length : Int) ≤ 1048576 ∧ (c.length : Int) ≤ 1048576 := by
  unfold okSt at hok
  split at hok
  · rename_i r0 z1 l z2 a z3 b z4 c
    simp only [Bool.and_eq_true, decide_eq_true_eq] at hok
    simp only [dsO, RepDs] at hr
    obtain ⟨u0, us0, G0, H0, rfl, rfl, h0, u1, us1, G1, H1, rfl, rfl, h1, u2, us2, G2, H2, rfl, rfl, h2, u3, us3, G3, H3, rfl, rfl, h3, u4, us4, G4, H4, rfl, rfl, h4, rfl, rfl⟩ := hr
    simp only [RepD] at h0
    obtain ⟨rfl, rfl⟩ := h0
    exact ⟨_, u1, u2, u3, u4, G1, G2, G3, G4, z1, z2, z3, z4, l, a, b, c, rfl, by simp, h1, h2, h3, h4, hok.1, hok.2.1, hok.2.2.1, hok.2.2.2⟩
  · cases hok
end Go.Proofs.Ytcaapedadpnjoaa
end
section
namespace Go.Proofs.Ytcaapedadpnjoaa
open Go Go.RowKit Go.Ev
structure TmI (W0 : World) (B hi : Nat) (uss : List (List Value)) (i : Nat) (kk : Int) (W : World) : Prop where
  own : ∃ lo, B < lo ∧ qab W lo (uss.drop i) hi
  row : ∀ j, i ≤ j → j < uss.length → W.rangeAt B (j * 5) (uss.getD j [])
  ther : W.there B 0 (uss.length * 5)
  fr : Fr (fun b _ => B ≤ b ∧ b < hi) W0 W
  hB : B < hi ∧ hi ≤ W.heap.size
  k0 : 0 ≤ kk
  k1 : kk ≤ 1 + (i : Int) * 6300000
theorem TmI.at {W0 W : World} {B hi i : Nat} {uss : List (List Value)} {kk : Int} (I : TmI W0 B hi uss i kk W) (hi' : i < uss.length) :
    ∃ lo mid F r, B < lo ∧ okSt r = true ∧ RepDs W (dsO r) (uss.getD i []) F ∧ Ev.Sep F ∧ (∀ b off, ownOf F b off → lo ≤ b ∧ b < mid) ∧ lo ≤ mid ∧ mid ≤ hi ∧ qab W mid (uss.drop (i + 1)) hi := by
  obtain ⟨lo, h1, h2⟩ := I.own
  rw [qcz hi' []] at h2
  obtain ⟨mid, F, r, a1, a2, a3, a4, a5, a6⟩ := h2
  exact ⟨lo, mid, F, r, h1, a1, a2, a3, a4, a5, a6.le, a6⟩
theorem qcs {N : Nat → Nat → Prop} {W W' : World} {b o : Nat} {v : Value} (f : Fr N W W') (h : W.cell? ⟨b, o, none⟩ = some v) (hn : ¬ N b o) : W'.cell? ⟨b, o, none⟩ = some v := f.cell h hn
end Go.Proofs.Ytcaapedadpnjoaa
end
section
namespace Go.Proofs.Ytcaapedadpnjoaa
open Go Go.RowKit Go.Ev
theorem qir {M : Nat → Nat → Prop} {W W' : World} {b o n : Nat} (f : Fr M W W') (h : W.there b o n) : W'.there b o n := fun j hj => by
  obtain ⟨v, hv⟩ := Option.isSome_iff_exists.1 (h j hj).1
  have hb := World.block_lt_of_cell? W _ hv
  refine ⟨?_, by rw [f.frozen hb]; exact (h j hj).2⟩
  rcases f.shell b hb with ⟨c, c', t, z, h1, h2, h3, _⟩ | h1 | ⟨m1, t1, m2, t2, h1, h2, _⟩
  · simp only [World.cell?, h1] at hv
    obtain ⟨hlt, _⟩ := Array.getElem?_eq_some_iff.1 hv
    simp only [World.cell?, h2]
    rw [Array.getElem?_eq_getElem (by rw [h3]; exact hlt)]; rfl
  · simp only [World.cell?] at hv ⊢
    rw [h1, hv]; rfl
  · simp [World.cell?, h1] at hv
theorem TmI.next {W0 W W' : World} {B hi i : Nat} {uss : List (List Value)} {kk kk' : Int} (I : TmI W0 B hi uss i kk W) (hi' : i < uss.length) {lo mid : Nat} (hlo : B < lo) (hle : lo ≤ mid) (hm : mid ≤ hi) (ho : qab W mid (uss.drop (i + 1)) hi) (h5 : ∀ us ∈ uss, us.length = 5)
    (f : Fr (fun b off => (b = B ∧ off = i * 5) ∨ (lo ≤ b ∧ b < mid)) W W') (hk : kk ≤ kk' ∧ kk' ≤ kk + 6300000) : TmI W0 B hi uss (i + 1) kk' W' := by
  refine ⟨⟨mid, by omega, ho.frame f fun b off h1 h2 h => by rcases h with h | h <;> omega⟩, fun j hj hj' => ?_, qir f I.ther, ?_, ⟨I.hB.1, Nat.le_trans I.hB.2 f.size⟩, by have := I.k0; omega, by have := I.k1; omega⟩
  · intro c v hv
    have := I.row j (by omega) hj' c v hv
    have hc : c < 5 := by
      have := (List.getElem?_eq_some_iff.1 hv).1
      have h5' := h5 _ (qew hj' [])
      omega
    exact f.cell this fun h => by
      rcases h with ⟨_, h⟩ | ⟨h, _⟩
      · have h : j * 5 + c = i * 5 := h
        omega
      · have h : lo ≤ B := h
        omega
  · refine I.fr.trans (f.mono fun b off _ h => ?_)
    have := I.hB.1
    rcases h with ⟨rfl, _⟩ | h
    · exact ⟨Nat.le_refl _, this⟩
    · exact ⟨by omega, by omega⟩
end Go.Proofs.Ytcaapedadpnjoaa
end
section
namespace Go.Proofs.Ytcaapedadpnjoaa
open Go Go.RowKit Go.Ev
theorem qad {w : World} {z : Bool} {a : Arr} {v : Value} {F : Feet} (h : RepD w (.arr true z a) v F) : ∀ A ∈ F, A.1 = true := by
  simp only [RepD] at h
  obtain ⟨p, _, _, rfl⟩ := h
  intro A hA
  rw [List.mem_singleton.1 hA]
theorem qhd {F G : Feet} {b off : Nat} (h : ownOf F b off) : ownOf (F ++ G) b off := by
  obtain ⟨A, hA, h1, h2⟩ := h
  exact ⟨A, List.mem_append_left _ hA, h1, h2⟩
theorem qhe {F G : Feet} {b off : Nat} (h : ownOf G b off) : ownOf (F ++ G) b off := by
  obtain ⟨A, hA, h1, h2⟩ := h
  exact ⟨A, List.mem_append_right _ hA, h1, h2⟩
theorem qih {F G : Feet} (h : Ev.Sep (F ++ G)) (hF : ∀ A ∈ F, A.1 = true) {b off : Nat} (hg : ownOf G b off) : ¬ ownOf F b off := by
  rintro ⟨A, hA, h1, h2⟩
  obtain ⟨C, hC, h3, h4⟩ := hg
  exact (List.pairwise_append.1 h).2.2 A hA C hC (.inl h1) b off h2 h4
theorem qii {F G : Feet} (h : Ev.Sep (F ++ G)) : Ev.Sep G := (List.pairwise_append.1 h).2.1
theorem qhb {N : Nat → Nat → Prop} {W W' : World} {d : D} {v : Value} {F : Feet} (h : RepD W d v F) (o : ∀ A ∈ F, A.1 = true) (f : Fr N W W') (hn : ∀ b off, ownOf F b off → ¬ N b off) : RepD W' d v F :=
  RepD.frame f d h fun A hA b off h1 => hn b off ⟨A, hA, o A hA, h1⟩
set_option maxRecDepth 100000 in
set_option maxHeartbeats 4000000 in
theorem qiv {W0 W : World} {B hi : Nat} {uss : List (List Value)} (hn : uss.length ≤ 1048576) (h5 : ∀ us ∈ uss, us.length = 5) (I : TmI W0 B hi uss 0 1 W) :
    Calls Try.prog 27 #[.slice (some ⟨B, 0, none⟩) uss.length uss.length, .int .i64 1] W fun e W' => ∃ kk, e = .returned (.int .i64 kk) ∧ 0 ≤ kk ∧ Fr (fun b _ => B ≤ b ∧ b < hi) W0 W' := by
  go_enter Try.func27, Try.ntmps27
  go_wp2
  go_loopw [1, 5] (fun k i wr => ∃ (kk : Int) (j : Nat), j ≤ uss.length ∧ k = .int .i64 kk ∧ i = .int .i64 j ∧ TmI W0 B hi uss j kk wr) (fun k i _ => uss.length - (RowKit.intOf i).toNat)
  case atStart => exact ⟨1, 0, Nat.zero_le _, rfl, rfl, I⟩
  case round =>
    obtain ⟨kk, i, hil, rfl, rfl, hI⟩ := hrel
    by_cases hlt : i < uss.length
    · obtain ⟨lo, mid, F, r, hlo, hok, hr, hs, hF, hle, hm, hO⟩ := hI.at hlt
      obtain ⟨n0, v1, v2, v3, v4, F1, F2, F3, F4, z1, z2, z3, z4, l, a, b, c, hus, rfl, r1, r2, r3, r4, l1, l2, l3, l4⟩ := qhm hok hr hs
      have row := hI.row i (Nat.le_refl _) hlt
      rw [hus] at row
      have c0 : wr.cell? ⟨B, i * 5, none⟩ = some n0 := row 0 n0 rfl
      have c1 := row 1 v1 rfl
      have c2 := row 2 v2 rfl
      have c3 := row 3 v3 rfl
      have c4 := row 4 v4 rfl
      have th := hI.ther (i * 5) (by omega)
      rw [Nat.zero_add] at th
      have fz : wr.frozen? ⟨B, i * 5, none⟩ = false := th.2
      have k0 := hI.k0; have k1 := hI.k1
      have kb : kk ≤ 6700000000000 := by omega
      have w1 : IntKind.i64.wrap (kk + 1) = kk + 1 := by rw [IntKind.wrap_i64]; omega
      have fa : Fr (Span B (i * 5) 1) wr (wr.setCell ⟨B, i * 5, none⟩ (.int .i64 kk)) := qeu (vs := [.int .i64 kk]) (fun j hj => by
        have : j = 0 := by simpa using hj
        subst this
        exact th) (by simp [Value.oneCell'])
      have o1 := qad r1; have o2 := qad r2; have o3 := qad r3; have o4 := qad r4
      have d1 : ∀ b off, ownOf F1 b off → lo ≤ b ∧ b < mid := fun b off h => hF b off (qhd h)
      have d2 : ∀ b off, ownOf F2 b off → lo ≤ b ∧ b < mid := fun b off h => hF b off (qhe (qhd h))
      have d3 : ∀ b off, ownOf F3 b off → lo ≤ b ∧ b < mid := fun b off h => hF b off (qhe (qhe (qhd h)))
      have d4 : ∀ b off, ownOf F4 b off → lo ≤ b ∧ b < mid := fun b off h => hF b off (qhe (qhe (qhe h)))
      have s1 : ∀ b off, ownOf F1 b off → ¬ Span B (i * 5) 1 b off := fun b off h hs => by have := (d1 b off h).1; have := hs.1; omega
      have s2 : ∀ b off, ownOf F2 b off → ¬ Span B (i * 5) 1 b off := fun b off h hs => by have := (d2 b off h).1; have := hs.1; omega
      have s3 : ∀ b off, ownOf F3 b off → ¬ Span B (i * 5) 1 b off := fun b off h hs => by have := (d3 b off h).1; have := hs.1; omega
      have s4 : ∀ b off, ownOf F4 b off → ¬ Span B (i * 5) 1 b off := fun b off h hs => by have := (d4 b off h).1; have := hs.1; omega
      have r1 := qhb r1 o1 fa s1; have r2 := qhb r2 o2 fa s2; have r3 := qhb r3 o3 fa s3; have r4 := qhb r4 o4 fa s4
      have c1 := qcs fa c1 (fun h => by have := h.2.2; omega); have c2 := qcs fa c2 (fun h => by have := h.2.2; omega)
      have c3 := qcs fa c3 (fun h => by have := h.2.2; omega); have c4 := qcs fa c4 (fun h => by have := h.2.2; omega)
      go_wp2_with (go_at_call 62; refine (qgq r1 l1 (by omega) (by omega)).mono ?_)
      rintro e W1 ⟨rfl, f1⟩
      have a12 := fun b off => qih hs o1 (b := b) (off := off)
      have hs2 := qii hs
      have a23 := fun b off => qih hs2 o2 (b := b) (off := off)
      have a34 := fun b off => qih (qii hs2) o3 (b := b) (off := off)
      have r2 := qhb r2 o2 f1 (fun b off h => a12 b off (qhd h)); have r3 := qhb r3 o3 f1 (fun b off h => a12 b off (qhe (qhd h))); have r4 := qhb r4 o4 f1 (fun b off h => a12 b off (qhe (qhe h)))
      have c2 := qcs f1 c2 (fun h => by have := (d1 _ _ h).1; omega); have c3 := qcs f1 c3 (fun h => by have := (d1 _ _ h).1; omega); have c4 := qcs f1 c4 (fun h => by have := (d1 _ _ h).1; omega)
      have w2 : IntKind.i64.wrap (kk + 1 + 3 * (l.length : Int)) = kk + 1 + 3 * l.length := by rw [IntKind.wrap_i64]; omega
      go_wp2_with (go_at_call 28; refine (qgr r2 l2 (by omega) (by omega)).mono ?_)
      rintro e W2 ⟨rfl, f2⟩
      have r3 := qhb r3 o3 f2 (fun b off h => a23 b off (qhd h)); have r4 := qhb r4 o4 f2 (fun b off h => a23 b off (qhe h))
      have c3 := qcs f2 c3 (fun h => by have := (d2 _ _ h).1; omega); have c4 := qcs f2 c4 (fun h => by have := (d2 _ _ h).1; omega)
      go_wp2_with (go_at_call 28; refine (qgr r3 l3 (by omega) (by omega)).mono ?_)
      rintro e W3 ⟨rfl, f3⟩
      have r4 := qhb r4 o4 f3 (fun b off h => a34 b off h)
      have c4 := qcs f3 c4 (fun h => by have := (d3 _ _ h).1; omega)
      go_wp2_with (go_at_call 28; refine (qgr r4 l4 (by omega) (by omega)).mono ?_)
      rintro e W4 ⟨rfl, f4⟩
      have ff : Fr (fun b off => (b = B ∧ off = i * 5) ∨ (lo ≤ b ∧ b < mid)) wr W4 :=
        (fa.mono fun b off _ h => .inl ⟨h.1, by have := h.2; omega⟩).trans ((f1.mono fun b off _ h => .inr (d1 b off h)).trans ((f2.mono fun b off _ h => .inr (d2 b off h)).trans ((f3.mono fun b off _ h => .inr (d3 b off h)).trans (f4.mono fun b off _ h => .inr (d4 b off h)))))
      have nx := hI.next hlt hlo hle hm hO h5 ff (kk' := kk + 1 + 3 * l.length + a.length + b.length + c.length) ⟨by omega, by omega⟩
      clear r1 r2 r3 r4 c1 c2 c3 c4 f1 f2 f3 f4 fa ff hI hr
      go_wp2
      go_roundw
      case rel => exact ⟨_, i + 1, by omega, rfl, by go_num, nx⟩
      case measure => simp [RowKit.intOf]; omega
    · obtain rfl : i = uss.length := by omega
      go_wp2
      go_ret
      exact ⟨kk, rfl, hI.k0, hI.fr⟩
end Go.Proofs.Ytcaapedadpnjoaa
end
section
namespace Go.Proofs.Ytcaapedadpnjoaa
open Go.Ev
set_option maxRecDepth 20000
def qh1 (x0 x1 : Int) (z2 : Bool) (l3 : List (List RC)) : St := ⟨fill 27 [(0, (.sl 0 none)), (1, (.int .i64 (x0))), (5, (.int .i64 (x1)))], [], [(.rows false (z2) [.n, .r3, .is, .is, .is] (l3))]⟩
theorem qdy (k : Nat) (az : Bool) (a : List (List RC)) (b : Int) : go (k + 1) laws_szStateS [(.rows (az) [.n, .r3, .is, .is, .is] (a)), (.int .i64 (b))] =
 cond (decide (IntKind.wrap .i64 (b - nI (List.length a)) < (0 : Int)))
 (some [(.int .i64 ((-1 : Int)))])
 (lp k laws_szStateS [] [] 5 k (qh1 (IntKind.wrap .i64 (b - nI (List.length a))) (0 : Int) az a)) := by kernel_rfl
theorem qff (k n : Nat) (fu : List (Nat × Nat)) (x0 x1 : Int) (z2 : Bool) (l3 : List (List RC)) : lp k laws_szStateS [] fu 5 (n + 1) (qh1 x0 x1 z2 l3) =
 cond (decide (x1 < nI (List.length l3)))
 (cond (decide ((0 : Int) ≤ x1) && decide (x1 < nI (List.length l3)))
 ((go k laws_szState [(.agg [(.int .i64 (RC.num (rcAt (rrow l3 (Int.toNat x1)) 0))), (.arr false (RC.nil (rcAt (rrow l3 (Int.toNat x1)) 1)) (.r3 (RC.r3s (rcAt (rrow l3 (Int.toNat x1)) 1)))), (.arr false (RC.nil (rcAt (rrow l3 (Int.toNat x1)) 2)) (.ints .i64 (RC.ints (rcAt (rrow l3 (Int.toNat x1)) 2)))), (.arr false (RC.nil (rcAt (rrow l3 (Int.toNat x1)) 3)) (.ints .i64 (RC.ints (rcAt (rrow l3 (Int.toNat x1)) 3)))), (.arr false (RC.nil (rcAt (rrow l3 (Int.toNat x1)) 4)) (.ints .i64 (RC.ints (rcAt (rrow l3 (Int.toNat x1)) 4))))]), (.int .i64 (x0))]).bind fun r0 =>
 cond (decide (D.toInt (nth r0 0) < (0 : Int)))
 (some [(.int .i64 ((-1 : Int)))])
 (lp k laws_szStateS [] fu 5 n (qh1 (D.toInt (nth r0 0)) (IntKind.wrap .i64 (x1 + (1 : Int))) z2 l3)))
 (none))
 (some [(.int .i64 (x0))]) := by kernel_rfl
def qhx (x0 : Int) (z1 : Bool) (l2 : List (List RC)) (z3 : Bool) (l4 : List (List RC)) : St := ⟨fill 27 [(0, (.sl 0 none)), (1, (.sl 1 none)), (5, (.int .i64 (x0)))], [], [(.rows false (z1) [.n, .r3, .is, .is, .is] (l2)), (.rows false (z3) [.n, .r3, .is, .is, .is] (l4))]⟩
theorem qdq (k : Nat) (az : Bool) (a : List (List RC)) (bz : Bool) (b : List (List RC)) : go (k + 1) laws_eqStateS [(.rows (az) [.n, .r3, .is, .is, .is] (a)), (.rows (bz) [.n, .r3, .is, .is, .is] (b))] =
 cond (!decide (nI (List.length a) = nI (List.length b)))
 (some [(.bool (false))])
 (lp k laws_eqStateS [] [] 4 k (qhx (0 : Int) az a bz b)) := by kernel_rfl
theorem qfb (k n : Nat) (fu : List (Nat × Nat)) (x0 : Int) (z1 : Bool) (l2 : List (List RC)) (z3 : Bool) (l4 : List (List RC)) : lp k laws_eqStateS [] fu 4 (n + 1) (qhx x0 z1 l2 z3 l4) =
 cond (decide (x0 < nI (List.length l2)))
 (cond (decide ((0 : Int) ≤ x0) && decide (x0 < nI (List.length l2)))
 (cond (decide ((0 : Int) ≤ x0) && decide (x0 < nI (List.length l4)))
 ((go k laws_eqState [(.agg [(.int .i64 (RC.num (rcAt (rrow l2 (Int.toNat x0)) 0))), (.arr false (RC.nil (rcAt (rrow l2 (Int.toNat x0)) 1)) (.r3 (RC.r3s (rcAt (rrow l2 (Int.toNat x0)) 1)))), (.arr false (RC.nil (rcAt (rrow l2 (Int.toNat x0)) 2)) (.ints .i64 (RC.ints (rcAt (rrow l2 (Int.toNat x0)) 2)))), (.arr false (RC.nil (rcAt (rrow l2 (Int.toNat x0)) 3)) (.ints .i64 (RC.ints (rcAt (rrow l2 (Int.toNat x0)) 3)))), (.arr false (RC.nil (rcAt (rrow l2 (Int.toNat x0)) 4)) (.ints .i64 (RC.ints (rcAt (rrow l2 (Int.toNat x0)) 4))))]), (.agg [(.int .i64 (RC.num (rcAt (rrow l4 (Int.toNat x0)) 0))), (.arr false (RC.nil (rcAt (rrow l4 (Int.toNat x0)) 1)) (.r3 (RC.r3s (rcAt (rrow l4 (Int.toNat x0)) 1)))), (.arr false (RC.nil (rcAt (rrow l4 (Int.toNat x0)) 2)) (.ints .i64 (RC.ints (rcAt (rrow l4 (Int.toNat x0)) 2)))), (.arr false (RC.nil (rcAt (rrow l4 (Int.toNat x0)) 3)) (.ints .i64 (RC.ints (rcAt (rrow l4 (Int.toNat x0)) 3)))), (.arr false (RC.nil (rcAt (rrow l4 (Int.toNat x0)) 4)) (.ints .i64 (RC.ints (rcAt (rrow l4 (Int.toNat x0)) 4))))])]).bind fun r0 =>
 cond (!bit (nth r0 0))
 (some [(.bool (false))])
 (lp k laws_eqStateS [] fu 4 n (qhx (IntKind.wrap .i64 (x0 + (1 : Int))) z1 l2 z3 l4)))
 (none))
 (none))
 (some [(.bool (true))]) := by kernel_rfl
end Go.Proofs.Ytcaapedadpnjoaa
end
section
namespace Go.Proofs.Ytcaapedadpnjoaa
open Go.Ev
theorem qdx (k : Nat) (a0 : Int) (a1z : Bool) (a1 : List (Int × Int × Int)) (a2z : Bool) (a2 : List Int) (a3z : Bool) (a3 : List Int) (a4z : Bool) (a4 : List Int) (b : Int) : go (k + 1) laws_szState [(.agg [(.int .i64 (a0)), (.arr false (a1z) (.r3 (a1))), (.arr false (a2z) (.ints .i64 (a2))), (.arr false (a3z) (.ints .i64 (a3))), (.arr false (a4z) (.ints .i64 (a4)))]), (.int .i64 (b))] =
 (go k laws_szMesh [(.agg [(.int .i64 (a0)), (.arr false (a1z) (.r3 (a1)))]), (.int .i64 (b))]).bind fun r0 =>
 cond (decide (D.toInt (nth r0 0) < (0 : Int)))
 (some [(.int .i64 ((-1 : Int)))])
 ((go k laws_szIntS [(.arr false (a2z) (.ints .i64 (a2))), (.int .i64 (D.toInt (nth r0 0)))]).bind fun r1 =>
 cond (decide (D.toInt (nth r1 0) < (0 : Int)))
 (some [(.int .i64 ((-1 : Int)))])
 ((go k laws_szIntS [(.arr false (a3z) (.ints .i64 (a3))), (.int .i64 (D.toInt (nth r1 0)))]).bind fun r2 =>
 cond (decide (D.toInt (nth r2 0) < (0 : Int)))
 (some [(.int .i64 ((-1 : Int)))])
 ((go k laws_szIntS [(.arr false (a4z) (.ints .i64 (a4))), (.int .i64 (D.toInt (nth r2 0)))]).bind fun r3 =>
 cond (decide (D.toInt (nth r3 0) < (0 : Int)))
 (some [(.int .i64 ((-1 : Int)))])
 (some [(.int .i64 (D.toInt (nth r3 0)))])))) := by kernel_rfl
theorem qdp (k : Nat) (a0 : Int) (a1z : Bool) (a1 : List (Int × Int × Int)) (a2z : Bool) (a2 : List Int) (a3z : Bool) (a3 : List Int) (a4z : Bool) (a4 : List Int) (b0 : Int) (b1z : Bool) (b1 : List (Int × Int × Int)) (b2z : Bool) (b2 : List Int) (b3z : Bool) (b3 : List Int) (b4z : Bool) (b4 : List Int) : go (k + 1) laws_eqState [(.agg [(.int .i64 (a0)), (.arr false (a1z) (.r3 (a1))), (.arr false (a2z) (.ints .i64 (a2))), (.arr false (a3z) (.ints .i64 (a3))), (.arr false (a4z) (.ints .i64 (a4)))]), (.agg [(.int .i64 (b0)), (.arr false (b1z) (.r3 (b1))), (.arr false (b2z) (.ints .i64 (b2))), (.arr false (b3z) (.ints .i64 (b3))), (.arr false (b4z) (.ints .i64 (b4)))])] =
 (go k laws_eqMesh [(.agg [(.int .i64 (a0)), (.arr false (a1z) (.r3 (a1)))]), (.agg [(.int .i64 (b0)), (.arr false (b1z) (.r3 (b1)))])]).bind fun r0 =>
 cond (!bit (nth r0 0))
 (some [(.bool (false))])
 ((go k laws_eqIntS [(.arr false (a2z) (.ints .i64 (a2))), (.arr false (b2z) (.ints .i64 (b2)))]).bind fun r1 =>
 cond (!bit (nth r1 0))
 (some [(.bool (false))])
 ((go k laws_eqIntS [(.arr false (a3z) (.ints .i64 (a3))), (.arr false (b3z) (.ints .i64 (b3)))]).bind fun r2 =>
 cond (!bit (nth r2 0))
 (some [(.bool (false))])
 ((go k laws_eqIntS [(.arr false (a4z) (.ints .i64 (a4))), (.arr false (b4z) (.ints .i64 (b4)))]).bind fun r3 =>
 cond (!bit (nth r3 0))
 (some [(.bool (false))])
 (some [(.bool (true))])))) := by kernel_rfl
end Go.Proofs.Ytcaapedadpnjoaa
end
section
namespace Go.Proofs.Ytcaapedadpnjoaa
open Go.Ev
theorem qbg (k : Nat) (hk : 2000000 ≤ k) (a0 : Int) (a1z : Bool) (a1 : List (Int × Int × Int)) (a2z : Bool) (a2 : List Int) (a3z : Bool) (a3 : List Int) (a4z : Bool) (a4 : List Int) (b : Int) (h1 : (a1.length : Int) ≤ 9223372036854775807) (h2 : (a2.length : Int) ≤ 9223372036854775807) (h3 : (a3.length : Int) ≤ 9223372036854775807) (h4 : (a4.length : Int) ≤ 9223372036854775807) (hb : 0 ≤ b) (hb' : b ≤ 1048576) :
    go (k + 3) laws_szState [(.agg [(.int .i64 (a0)), (.arr false (a1z) (.r3 (a1))), (.arr false (a2z) (.ints .i64 (a2))), (.arr false (a3z) (.ints .i64 (a3))), (.arr false (a4z) (.ints .i64 (a4)))]), (.int .i64 (b))] = some [.int .i64 (if (a1.length : Int) + a2.length + a3.length + a4.length ≤ b then b - a1.length - a2.length - a3.length - a4.length else -1)] := by
  rw [qdx]
  by_cases g1 : (a1.length : Int) ≤ b
  case neg => rw [if_neg (c := (a1.length : Int) + a2.length + a3.length + a4.length ≤ b) (by omega)]; simp (disch := omega) only [qah, nth0, nth1, nth2, nth3, bit, qb3, qb4, qcf, qck, qcl, qcm, qcn, qco, qcp, qcq, qb5, qb6, qb7, qb8, qb9, qca, qcb, qcc, qcd, qce, qcg, qch, qci, qcj, qix, qiw, qiy, qg8, qhg, qhh, qe0, qai, qiq, nI, qcw, qcu, Bool.not_true, Bool.not_false, Bool.and_true, Bool.true_and, Bool.and_false, Bool.false_and, Bool.or_true, Bool.true_or, Bool.or_false, Bool.false_or, beq_self_eq_true, dTT, dFF, dT, dF, bigI, big0, qg7, qi9, qja, List.length_set, List.length_replicate, Int.toNat_natCast, qb1, qb2, imax, imin, qbf, if_neg g1]
  by_cases g2 : (a2.length : Int) ≤ b - a1.length
  case neg => rw [if_neg (c := (a1.length : Int) + a2.length + a3.length + a4.length ≤ b) (by omega)]; simp (disch := omega) only [qah, nth0, nth1, nth2, nth3, bit, qb3, qb4, qcf, qck, qcl, qcm, qcn, qco, qcp, qcq, qb5, qb6, qb7, qb8, qb9, qca, qcb, qcc, qcd, qce, qcg, qch, qci, qcj, qix, qiw, qiy, qg8, qhg, qhh, qe0, qai, qiq, nI, qcw, qcu, Bool.not_true, Bool.not_false, Bool.and_true, Bool.true_and, Bool.and_false, Bool.false_and, Bool.or_true, Bool.true_or, Bool.or_false, Bool.false_or, beq_self_eq_true, dTT, dFF, dT, dF, bigI, big0, qg7, qi9, qja, List.length_set, List.length_replicate, Int.toNat_natCast, qb1, qb2, imax, imin, qbf, qbe, if_pos g1, if_neg g2]
  by_cases g3 : (a3.length : Int) ≤ b - a1.length - a2.length
  case neg => rw [if_neg (c := (a1.length : Int) + a2.length + a3.length + a4.length ≤ b) (by omega)]; simp (disch := omega) only [qah, nth0, nth1, nth2, nth3, bit, qb3, qb4, qcf, qck, qcl, qcm, qcn, qco, qcp, qcq, qb5, qb6, qb7, qb8, qb9, qca, qcb, qcc, qcd, qce, qcg, qch, qci, qcj, qix, qiw, qiy, qg8, qhg, qhh, qe0, qai, qiq, nI, qcw, qcu, Bool.not_true, Bool.not_false, Bool.and_true, Bool.true_and, Bool.and_false, Bool.false_and, Bool.or_true, Bool.true_or, Bool.or_false, Bool.false_or, beq_self_eq_true, dTT, dFF, dT, dF, bigI, big0, qg7, qi9, qja, List.length_set, List.length_replicate, Int.toNat_natCast, qb1, qb2, imax, imin, qbf, qbe, if_pos g1, if_pos g2, if_neg g3]
  by_cases g4 : (a4.length : Int) ≤ b - a1.length - a2.length - a3.length
  case neg => rw [if_neg (c := (a1.length : Int) + a2.length + a3.length + a4.length ≤ b) (by omega)]; simp (disch := omega) only [qah, nth0, nth1, nth2, nth3, bit, qb3, qb4, qcf, qck, qcl, qcm, qcn, qco, qcp, qcq, qb5, qb6, qb7, qb8, qb9, qca, qcb, qcc, qcd, qce, qcg, qch, qci, qcj, qix, qiw, qiy, qg8, qhg, qhh, qe0, qai, qiq, nI, qcw, qcu, Bool.not_true, Bool.not_false, Bool.and_true, Bool.true_and, Bool.and_false, Bool.false_and, Bool.or_true, Bool.true_or, Bool.or_false, Bool.false_or, beq_self_eq_true, dTT, dFF, dT, dF, bigI, big0, qg7, qi9, qja, List.length_set, List.length_replicate, Int.toNat_natCast, qb1, qb2, imax, imin, qbf, qbe, if_pos g1, if_pos g2, if_pos g3, if_neg g4]
  rw [if_pos (c := (a1.length : Int) + a2.length + a3.length + a4.length ≤ b) (by omega)]; simp (disch := omega) only [qah, nth0, nth1, nth2, nth3, bit, qb3, qb4, qcf, qck, qcl, qcm, qcn, qco, qcp, qcq, qb5, qb6, qb7, qb8, qb9, qca, qcb, qcc, qcd, qce, qcg, qch, qci, qcj, qix, qiw, qiy, qg8, qhg, qhh, qe0, qai, qiq, nI, qcw, qcu, Bool.not_true, Bool.not_false, Bool.and_true, Bool.true_and, Bool.and_false, Bool.false_and, Bool.or_true, Bool.true_or, Bool.or_false, Bool.false_or, beq_self_eq_true, dTT, dFF, dT, dF, bigI, big0, qg7, qi9, qja, List.length_set, List.length_replicate, Int.toNat_natCast, qb1, qb2, imax, imin, qbf, qbe, if_pos g1, if_pos g2, if_pos g3, if_pos g4]
theorem qa8 (k : Nat) (hk : 2000000 ≤ k) (r : Int) (z1 z2 z3 z4 y1 y2 y3 y4 : Bool) (l : List Cell) (m t b : List Int) (h1 : (l.length : Int) ≤ 1048576) (h2 : (m.length : Int) ≤ 1048576) (h3 : (t.length : Int) ≤ 1048576) (h4 : (b.length : Int) ≤ 1048576) :
    go (k + 4) laws_eqState [.agg [.int .i64 r, .arr false z1 (.r3 l), .arr false z2 (.ints .i64 m), .arr false z3 (.ints .i64 t), .arr false z4 (.ints .i64 b)], .agg [.int .i64 r, .arr false y1 (.r3 l), .arr false y2 (.ints .i64 m), .arr false y3 (.ints .i64 t), .arr false y4 (.ints .i64 b)]] = some [.bool true] := by
  rw [qdp]
  simp (disch := omega) only [qah, nth0, nth1, nth2, nth3, bit, qb3, qb4, qcf, qck, qcl, qcm, qcn, qco, qcp, qcq, qb5, qb6, qb7, qb8, qb9, qca, qcb, qcc, qcd, qce, qcg, qch, qci, qcj, qix, qiw, qiy, qg8, qhg, qhh, qe0, qai, qiq, nI, qcw, qcu, Bool.not_true, Bool.not_false, Bool.and_true, Bool.true_and, Bool.and_false, Bool.false_and, Bool.or_true, Bool.true_or, Bool.or_false, Bool.false_or, beq_self_eq_true, dTT, dFF, dT, dF, bigI, big0, qg7, qi9, qja, List.length_set, List.length_replicate, Int.toNat_natCast, qb1, qb2, imax, imin, qa7, qa6]
end Go.Proofs.Ytcaapedadpnjoaa
end
section
namespace Go.Proofs.Ytcaapedadpnjoaa
open Go.Ev
set_option maxRecDepth 20000
def qhp (x0 x1 : Int) (z2 : Bool) (l3 : List Int) (z4 : Bool) (l5 : List Int) (z6 : Bool) (l7 : List (List RC)) : St := ⟨fill 66 [(5, (.sl 0 none)), (6, (.sl 1 none)), (30, (.sl 2 none)), (31, (.int .i64 (x0))), (32, (.int .i64 (x1)))], [], [(.arr true (z2) (.ints .i64 (l3))), (.arr true (z4) (.ints .i64 (l5))), (.rows false (z6) [.n, .r3, .is, .is, .is] (l7))]⟩
def qhq (x0 x1 x2 x3 : Int) (z4 : Bool) (l5 : List Int) (z6 : Bool) (l7 : List Int) (z8 : Bool) (l9 : List (List RC)) (z10 : Bool) (l11 : List Int) : St := ⟨fill 66 [(5, (.sl 0 none)), (6, (.sl 1 none)), (30, (.sl 2 none)), (31, (.int .i64 (x0))), (32, (.int .i64 (x1))), (37, (.sl 3 none)), (38, (.int .i64 (x2))), (39, (.int .i64 (x3)))], [], [(.arr true (z4) (.ints .i64 (l5))), (.arr true (z6) (.ints .i64 (l7))), (.rows false (z8) [.n, .r3, .is, .is, .is] (l9)), (.arr false (z10) (.ints .i64 (l11)))]⟩
theorem qc3 (k : Nat) (az : Bool) (a : List (List RC)) : go (k + 1) impl_EnvelopeOf [(.rows (az) [.n, .r3, .is, .is, .is] (a))] =
 (go k impl_within [(.int .i64 (nI (List.length a))), (.int .i64 ((1 : Int))), (.int .i64 ((100 : Int)))]).bind fun r0 =>
 cond (!bit (nth r0 0))
 (some [(.arr true (true) (.ints .i64 ([]))), (.arr true (true) (.ints .i64 ([]))), (.bool (false))])
 ((go k slices_ContainsFunc_impl_State_impl_State [(.rows (az) [.n, .r3, .is, .is, .is] (a)), (.fn impl_EnvelopeOf_1 [(.ptr false [(.rows (az) [.n, .r3, .is, .is, .is] (a))])])]).bind fun r1 =>
 cond (bit (nth r1 0))
 (some [(.arr true (true) (.ints .i64 ([]))), (.arr true (true) (.ints .i64 ([]))), (.bool (false))])
 (cond (decide ((0 : Int) ≤ (0 : Int)) && decide ((0 : Int) < nI (List.length a)))
 ((go k slices_Clone_int_int [(.arr false (RC.nil (rcAt (rrow a (Int.toNat (0 : Int))) 2)) (.ints .i64 (RC.ints (rcAt (rrow a (Int.toNat (0 : Int))) 2))))]).bind fun r2 =>
 cond (decide ((0 : Int) ≤ (0 : Int)) && decide ((0 : Int) < nI (List.length a)))
 ((go k slices_Clone_int_int [(.arr false (RC.nil (rcAt (rrow a (Int.toNat (0 : Int))) 2)) (.ints .i64 (RC.ints (rcAt (rrow a (Int.toNat (0 : Int))) 2))))]).bind fun r3 =>
 lp k impl_EnvelopeOf [] [] 5 k (qhp (nI (List.length a)) (0 : Int) (D.nil (nth r2 0)) (D.ints (nth r2 0)) (D.nil (nth r3 0)) (D.ints (nth r3 0)) az a))
 (none))
 (none))) := by kernel_rfl
theorem qe3 (k n : Nat) (fu : List (Nat × Nat)) (x0 x1 : Int) (z2 : Bool) (l3 : List Int) (z4 : Bool) (l5 : List Int) (z6 : Bool) (l7 : List (List RC)) : lp k impl_EnvelopeOf [] fu 5 (n + 1) (qhp x0 x1 z2 l3 z4 l5 z6 l7) =
 cond (decide (x1 < x0))
 (cond (decide ((0 : Int) ≤ x1) && decide (x1 < nI (List.length l7)))
 (lp k impl_EnvelopeOf [] ((5, n) :: fu) 8 k (qhq x0 x1 (nI (List.length (RC.ints (rcAt (rrow l7 (Int.toNat x1)) 2)))) (0 : Int) z2 l3 z4 l5 z6 l7 (RC.nil (rcAt (rrow l7 (Int.toNat x1)) 2)) (RC.ints (rcAt (rrow l7 (Int.toNat x1)) 2))))
 (none))
 (some [(.arr true (z2) (.ints .i64 (l3))), (.arr true (z4) (.ints .i64 (l5))), (.bool (true))]) := by kernel_rfl
theorem qe4 (k n : Nat) (fu : List (Nat × Nat)) (x0 x1 x2 x3 : Int) (z4 : Bool) (l5 : List Int) (z6 : Bool) (l7 : List Int) (z8 : Bool) (l9 : List (List RC)) (z10 : Bool) (l11 : List Int) : lp k impl_EnvelopeOf [] fu 8 (n + 1) (qhq x0 x1 x2 x3 z4 l5 z6 l7 z8 l9 z10 l11) =
 cond (decide (x3 < x2))
 (cond (decide ((0 : Int) ≤ x3) && decide (x3 < nI (List.length l11)))
 (cond (decide ((0 : Int) ≤ x3) && decide (x3 < nI (List.length l5)))
 (cond (decide ((0 : Int) ≤ x3) && decide (x3 < nI (List.length l7)))
 (cond (decide ((0 : Int) ≤ x3) && decide (x3 < nI (List.length l5)))
 (cond (decide ((0 : Int) ≤ x3) && decide (x3 < nI (List.length l7)))
 (lp k impl_EnvelopeOf [] fu 8 n (qhq x0 x1 x2 (IntKind.wrap .i64 (x3 + (1 : Int))) z4 (List.set l5 (Int.toNat x3) (if List.getD l11 (Int.toNat x3) (0 : Int) < List.getD l5 (Int.toNat x3) (0 : Int) then List.getD l11 (Int.toNat x3) (0 : Int) else List.getD l5 (Int.toNat x3) (0 : Int))) z6 (List.set l7 (Int.toNat x3) (if List.getD l11 (Int.toNat x3) (0 : Int) > List.getD l7 (Int.toNat x3) (0 : Int) then List.getD l11 (Int.toNat x3) (0 : Int) else List.getD l7 (Int.toNat x3) (0 : Int))) z8 l9 z10 l11))
 (none))
 (none))
 (none))
 (none))
 (none))
 (lp k impl_EnvelopeOf [] fu 5 (fuelOf fu 5) (qhp x0 (IntKind.wrap .i64 (x1 + (1 : Int))) z4 l5 z6 l7 z8 l9)) := by kernel_rfl
theorem qc4 (k : Nat) (v0 : Int) (v1 : Bool) (v2 : List (Int × Int × Int)) (v3 : Bool) (v4 : List Int) (v5 : Bool) (v6 : List Int) (v7 : Bool) (v8 : List Int) (v9 : Bool) (v10 : List (List RC)) : go (k + 1) impl_EnvelopeOf_1 [(.agg [(.int .i64 (v0)), (.arr false (v1) (.r3 (v2))), (.arr false (v3) (.ints .i64 (v4))), (.arr false (v5) (.ints .i64 (v6))), (.arr false (v7) (.ints .i64 (v8)))]), (.ptr false [(.rows (v9) [.n, .r3, .is, .is, .is] (v10))])] =
 (go k impl_StateOk [(.agg [(.int .i64 (v0)), (.arr false (v1) (.r3 (v2))), (.arr false (v3) (.ints .i64 (v4))), (.arr false (v5) (.ints .i64 (v6))), (.arr false (v7) (.ints .i64 (v8)))])]).bind fun r0 =>
 cond (!bit (nth r0 0))
 (some [(.bool (true))])
 (cond (decide ((0 : Int) ≤ (0 : Int)) && decide ((0 : Int) < nI (List.length v10)))
 ((go k impl_SameMesh [(.agg [(.int .i64 (v0)), (.arr false (v1) (.r3 (v2)))]), (.agg [(.int .i64 (RC.num (rcAt (rrow v10 (Int.toNat (0 : Int))) 0))), (.arr false (RC.nil (rcAt (rrow v10 (Int.toNat (0 : Int))) 1)) (.r3 (RC.r3s (rcAt (rrow v10 (Int.toNat (0 : Int))) 1))))])]).bind fun r1 =>
 some [(.bool (!bit (nth r1 0)))])
 (none)) := by kernel_rfl
theorem qd5 (k : Nat) (v0 : Bool) (v1 : List (List RC)) (v2 : Bool) (v3 : List (List RC)) : go (k + 1) slices_ContainsFunc_impl_State_impl_State [(.rows (v0) [.n, .r3, .is, .is, .is] (v1)), (.fn impl_EnvelopeOf_1 [(.ptr false [(.rows (v2) [.n, .r3, .is, .is, .is] (v3))])])] =
 (go k slices_IndexFunc_impl_State_impl_State [(.rows (v0) [.n, .r3, .is, .is, .is] (v1)), (.fn impl_EnvelopeOf_1 [(.ptr false [(.rows (v2) [.n, .r3, .is, .is, .is] (v3))])])]).bind fun r0 =>
 some [(.bool (decide ((0 : Int) ≤ D.toInt (nth r0 0))))] := by kernel_rfl
def qh5 (x0 x1 : Int) (z2 : Bool) (l3 : List (List RC)) (z4 : Bool) (l5 : List (List RC)) : St := ⟨fill 19 [(0, (.sl 0 none)), (1, (.fn impl_EnvelopeOf_1 [(.ptr 2 (0) (0))])), (7, (.int .i64 (x0))), (8, (.int .i64 (x1)))], [], [(.rows false (z2) [.n, .r3, .is, .is, .is] (l3)), (.rows false (z4) [.n, .r3, .is, .is, .is] (l5)), (.box false [(.sl 1 none)])]⟩
theorem qd8 (k : Nat) (v0 : Bool) (v1 : List (List RC)) (v2 : Bool) (v3 : List (List RC)) : go (k + 1) slices_IndexFunc_impl_State_impl_State [(.rows (v0) [.n, .r3, .is, .is, .is] (v1)), (.fn impl_EnvelopeOf_1 [(.ptr false [(.rows (v2) [.n, .r3, .is, .is, .is] (v3))])])] =
 lp k slices_IndexFunc_impl_State_impl_State [] [] 2 k (qh5 (nI (List.length v1)) (0 : Int) v0 v1 v2 v3) := by kernel_rfl
theorem qfj (k n : Nat) (fu : List (Nat × Nat)) (x0 x1 : Int) (z2 : Bool) (l3 : List (List RC)) (z4 : Bool) (l5 : List (List RC)) : lp k slices_IndexFunc_impl_State_impl_State [] fu 2 (n + 1) (qh5 x0 x1 z2 l3 z4 l5) =
 cond (decide (x1 < x0))
 (cond (decide ((0 : Int) ≤ x1) && decide (x1 < nI (List.length l3)))
 ((go k impl_EnvelopeOf_1 [(.agg [(.int .i64 (RC.num (rcAt (rrow l3 (Int.toNat x1)) 0))), (.arr false (RC.nil (rcAt (rrow l3 (Int.toNat x1)) 1)) (.r3 (RC.r3s (rcAt (rrow l3 (Int.toNat x1)) 1)))), (.arr false (RC.nil (rcAt (rrow l3 (Int.toNat x1)) 2)) (.ints .i64 (RC.ints (rcAt (rrow l3 (Int.toNat x1)) 2)))), (.arr false (RC.nil (rcAt (rrow l3 (Int.toNat x1)) 3)) (.ints .i64 (RC.ints (rcAt (rrow l3 (Int.toNat x1)) 3)))), (.arr false (RC.nil (rcAt (rrow l3 (Int.toNat x1)) 4)) (.ints .i64 (RC.ints (rcAt (rrow l3 (Int.toNat x1)) 4))))]), (.ptr false [(.rows (z4) [.n, .r3, .is, .is, .is] (l5))])]).bind fun r0 =>
 cond (bit (nth r0 0))
 (some [(.int .i64 (x1))])
 (lp k slices_IndexFunc_impl_State_impl_State [] fu 2 n (qh5 x0 (IntKind.wrap .i64 (x1 + (1 : Int))) z2 l3 z4 l5)))
 (none))
 (some [(.int .i64 ((-1 : Int)))]) := by kernel_rfl
def qh7 (x0 : Int) (z1 : Bool) (l2 : List (List RC)) (z3 : Bool) (l4 : List Int) (z5 : Bool) (l6 : List Int) : St := ⟨fill 72 [(0, (.sl 0 none)), (5, (.sl 1 none)), (6, (.sl 2 none)), (7, (.int .i64 (x0)))], [], [(.rows false (z1) [.n, .r3, .is, .is, .is] (l2)), (.arr true (z3) (.ints .i64 (l4))), (.arr true (z5) (.ints .i64 (l6)))]⟩
def qh8 (x0 x1 : Int) (z2 : Bool) (l3 : List (List RC)) (z4 : Bool) (l5 : List Int) (z6 : Bool) (l7 : List Int) : St := ⟨fill 72 [(0, (.sl 0 none)), (5, (.sl 1 none)), (6, (.sl 2 none)), (7, (.int .i64 (x0))), (8, (.int .i64 (x1)))], [], [(.rows false (z2) [.n, .r3, .is, .is, .is] (l3)), (.arr true (z4) (.ints .i64 (l5))), (.arr true (z6) (.ints .i64 (l7)))]⟩
theorem qea (k : Nat) (az : Bool) (a : List (List RC)) : go (k + 1) spec_EnvelopeOf [(.rows (az) [.n, .r3, .is, .is, .is] (a))] =
 (go k spec_l34Ask [(.rows (az) [.n, .r3, .is, .is, .is] (a))]).bind fun r0 =>
 cond (!bit (nth r0 0))
 (some [(.arr true (false) (.ints .i64 ([]))), (.arr true (false) (.ints .i64 ([]))), (.bool (false))])
 (cond (decide ((0 : Int) ≤ (0 : Int)) && decide ((0 : Int) < nI (List.length a)))
 (cond (decide (List.length ([] ++ RC.ints (rcAt (rrow a (Int.toNat (0 : Int))) 2)) ≤ bigLen))
 (cond (decide ((0 : Int) ≤ (0 : Int)) && decide ((0 : Int) < nI (List.length a)))
 (cond (decide (List.length ([] ++ RC.ints (rcAt (rrow a (Int.toNat (0 : Int))) 2)) ≤ bigLen))
 (lp k spec_EnvelopeOf [] [] 6 k (qh7 ((1 : Int)) az a (false && decide (List.length ([] ++ RC.ints (rcAt (rrow a (Int.toNat (0 : Int))) 2)) = 0)) ([] ++ RC.ints (rcAt (rrow a (Int.toNat (0 : Int))) 2)) (false && decide (List.length ([] ++ RC.ints (rcAt (rrow a (Int.toNat (0 : Int))) 2)) = 0)) ([] ++ RC.ints (rcAt (rrow a (Int.toNat (0 : Int))) 2))))
 (none))
 (none))
 (none))
 (none)) := by kernel_rfl
theorem qfl (k n : Nat) (fu : List (Nat × Nat)) (x0 : Int) (z1 : Bool) (l2 : List (List RC)) (z3 : Bool) (l4 : List Int) (z5 : Bool) (l6 : List Int) : lp k spec_EnvelopeOf [] fu 6 (n + 1) (qh7 x0 z1 l2 z3 l4 z5 l6) =
 cond (decide (x0 < nI (List.length l2)))
 (lp k spec_EnvelopeOf [] ((6, n) :: fu) 9 k (qh8 x0 (0 : Int) z1 l2 z3 l4 z5 l6))
 (some [(.arr true (z3) (.ints .i64 (l4))), (.arr true (z5) (.ints .i64 (l6))), (.bool (true))]) := by kernel_rfl
theorem qfm (k n : Nat) (fu : List (Nat × Nat)) (x0 x1 : Int) (z2 : Bool) (l3 : List (List RC)) (z4 : Bool) (l5 : List Int) (z6 : Bool) (l7 : List Int) : lp k spec_EnvelopeOf [] fu 9 (n + 1) (qh8 x0 x1 z2 l3 z4 l5 z6 l7) =
 cond (decide (x1 < nI (List.length l5)))
 (cond (decide ((0 : Int) ≤ x1) && decide (x1 < nI (List.length l5)))
 (cond (decide ((0 : Int) ≤ x0) && decide (x0 < nI (List.length l3)))
 (cond (decide ((0 : Int) ≤ x1) && decide (x1 < nI (List.length (RC.ints (rcAt (rrow l3 (Int.toNat x0)) 2)))))
 (cond (decide ((0 : Int) ≤ x1) && decide (x1 < nI (List.length l5)))
 (cond (decide ((0 : Int) ≤ x1) && decide (x1 < nI (List.length l7)))
 (cond (decide ((0 : Int) ≤ x0) && decide (x0 < nI (List.length l3)))
 (cond (decide ((0 : Int) ≤ x1) && decide (x1 < nI (List.length (RC.ints (rcAt (rrow l3 (Int.toNat x0)) 2)))))
 (cond (decide ((0 : Int) ≤ x1) && decide (x1 < nI (List.length l7)))
 (lp k spec_EnvelopeOf [] fu 9 n (qh8 x0 (IntKind.wrap .i64 (x1 + (1 : Int))) z2 l3 z4 (List.set l5 (Int.toNat x1) (if List.getD (RC.ints (rcAt (rrow l3 (Int.toNat x0)) 2)) (Int.toNat x1) (0 : Int) < List.getD l5 (Int.toNat x1) (0 : Int) then List.getD (RC.ints (rcAt (rrow l3 (Int.toNat x0)) 2)) (Int.toNat x1) (0 : Int) else List.getD l5 (Int.toNat x1) (0 : Int))) z6 (List.set l7 (Int.toNat x1) (if List.getD (RC.ints (rcAt (rrow l3 (Int.toNat x0)) 2)) (Int.toNat x1) (0 : Int) > List.getD l7 (Int.toNat x1) (0 : Int) then List.getD (RC.ints (rcAt (rrow l3 (Int.toNat x0)) 2)) (Int.toNat x1) (0 : Int) else List.getD l7 (Int.toNat x1) (0 : Int)))))
 (none))
 (none))
 (none))
 (none))
 (none))
 (none))
 (none))
 (none))
 (lp k spec_EnvelopeOf [] fu 6 (fuelOf fu 6) (qh7 (IntKind.wrap .i64 (x0 + (1 : Int))) z2 l3 z4 l5 z6 l7)) := by kernel_rfl
def qif (x0 : Int) (z1 : Bool) (l2 : List (List RC)) : St := ⟨fill 33 [(0, (.sl 0 none)), (3, (.int .i64 (x0)))], [], [(.rows false (z1) [.n, .r3, .is, .is, .is] (l2))]⟩
theorem qem (k : Nat) (az : Bool) (a : List (List RC)) : go (k + 1) spec_l34Ask [(.rows (az) [.n, .r3, .is, .is, .is] (a))] =
 (go k spec_l01In [(.int .i64 (nI (List.length a))), (.int .i64 ((1 : Int))), (.int .i64 ((100 : Int)))]).bind fun r0 =>
 cond (!bit (nth r0 0))
 (some [(.bool (false))])
 (lp k spec_l34Ask [] [] 4 k (qif (0 : Int) az a)) := by kernel_rfl
theorem qft (k n : Nat) (fu : List (Nat × Nat)) (x0 : Int) (z1 : Bool) (l2 : List (List RC)) : lp k spec_l34Ask [] fu 4 (n + 1) (qif x0 z1 l2) =
 cond (decide (x0 < nI (List.length l2)))
 (cond (decide ((0 : Int) ≤ x0) && decide (x0 < nI (List.length l2)))
 ((go k spec_StateOk [(.agg [(.int .i64 (RC.num (rcAt (rrow l2 (Int.toNat x0)) 0))), (.arr false (RC.nil (rcAt (rrow l2 (Int.toNat x0)) 1)) (.r3 (RC.r3s (rcAt (rrow l2 (Int.toNat x0)) 1)))), (.arr false (RC.nil (rcAt (rrow l2 (Int.toNat x0)) 2)) (.ints .i64 (RC.ints (rcAt (rrow l2 (Int.toNat x0)) 2)))), (.arr false (RC.nil (rcAt (rrow l2 (Int.toNat x0)) 3)) (.ints .i64 (RC.ints (rcAt (rrow l2 (Int.toNat x0)) 3)))), (.arr false (RC.nil (rcAt (rrow l2 (Int.toNat x0)) 4)) (.ints .i64 (RC.ints (rcAt (rrow l2 (Int.toNat x0)) 4))))])]).bind fun r0 =>
 cond (!bit (nth r0 0))
 (some [(.bool (false))])
 (cond (decide ((0 : Int) ≤ x0) && decide (x0 < nI (List.length l2)))
 (cond (decide ((0 : Int) ≤ (0 : Int)) && decide ((0 : Int) < nI (List.length l2)))
 ((go k spec_SameMesh [(.agg [(.int .i64 (RC.num (rcAt (rrow l2 (Int.toNat x0)) 0))), (.arr false (RC.nil (rcAt (rrow l2 (Int.toNat x0)) 1)) (.r3 (RC.r3s (rcAt (rrow l2 (Int.toNat x0)) 1))))]), (.agg [(.int .i64 (RC.num (rcAt (rrow l2 (Int.toNat (0 : Int))) 0))), (.arr false (RC.nil (rcAt (rrow l2 (Int.toNat (0 : Int))) 1)) (.r3 (RC.r3s (rcAt (rrow l2 (Int.toNat (0 : Int))) 1))))])]).bind fun r1 =>
 cond (!bit (nth r1 0))
 (some [(.bool (false))])
 (lp k spec_l34Ask [] fu 4 n (qif (IntKind.wrap .i64 (x0 + (1 : Int))) z1 l2)))
 (none))
 (none)))
 (none))
 (some [(.bool (true))]) := by kernel_rfl

end Go.Proofs.Ytcaapedadpnjoaa
end
section
namespace Go.Proofs.Ytcaapedadpnjoaa
open Go.Ev
def qib (x0 : Int) (z1 : Bool) (l2 : List (Int × Int × Int)) (z3 : Bool) (l4 : List Int) (z5 : Bool) (l6 : List Int) (z7 : Bool) (l8 : List Int) (x9 : Int) : St := ⟨fill 84 [(1, (.ptr 4 (0) (0))), (3, (.int .i64 (x0)))], [], [(.arr false (z1) (.r3 (l2))), (.arr false (z3) (.ints .i64 (l4))), (.arr false (z5) (.ints .i64 (l6))), (.arr false (z7) (.ints .i64 (l8))), (.box true [(.int .i64 (x9)), (.sl 0 none), (.sl 1 none), (.sl 2 none), (.sl 3 none)])]⟩
def qic (x0 : Int) (z1 : Bool) (l2 : List (Int × Int × Int)) (z3 : Bool) (l4 : List Int) (z5 : Bool) (l6 : List Int) (z7 : Bool) (l8 : List Int) (x9 : Int) : St := ⟨fill 84 [(1, (.ptr 4 (0) (0))), (4, (.int .i64 (x0)))], [], [(.arr false (z1) (.r3 (l2))), (.arr false (z3) (.ints .i64 (l4))), (.arr false (z5) (.ints .i64 (l6))), (.arr false (z7) (.ints .i64 (l8))), (.box true [(.int .i64 (x9)), (.sl 0 none), (.sl 1 none), (.sl 2 none), (.sl 3 none)])]⟩
theorem qeg (k : Nat) (a0 : Int) (a1z : Bool) (a1 : List (Int × Int × Int)) (a2z : Bool) (a2 : List Int) (a3z : Bool) (a3 : List Int) (a4z : Bool) (a4 : List Int) : go (k + 1) spec_StateOk [(.agg [(.int .i64 (a0)), (.arr false (a1z) (.r3 (a1))), (.arr false (a2z) (.ints .i64 (a2))), (.arr false (a3z) (.ints .i64 (a3))), (.arr false (a4z) (.ints .i64 (a4)))])] =
 (go k spec_IsBalanced [(.agg [(.int .i64 (a0)), (.arr false (a1z) (.r3 (a1)))])]).bind fun r0 =>
 cond (!bit (nth r0 0))
 (some [(.bool (false))])
 (cond (!decide (nI (List.length a2) = nI (List.length a1)))
 (some [(.bool (false))])
 (cond (!decide (nI (List.length a3) = nI (List.length a2)))
 (some [(.bool (false))])
 (cond (!decide (nI (List.length a4) = a0))
 (some [(.bool (false))])
 (lp k spec_StateOk [] [] 4 k (qib (0 : Int) a1z a1 a2z a2 a3z a3 a4z a4 a0))))) := by kernel_rfl
theorem qfp (k n : Nat) (fu : List (Nat × Nat)) (x0 : Int) (z1 : Bool) (l2 : List (Int × Int × Int)) (z3 : Bool) (l4 : List Int) (z5 : Bool) (l6 : List Int) (z7 : Bool) (l8 : List Int) (x9 : Int) : lp k spec_StateOk [] fu 4 (n + 1) (qib x0 z1 l2 z3 l4 z5 l6 z7 l8 x9) =
 cond (decide (x0 < nI (List.length l4)))
 (cond (decide ((0 : Int) ≤ x0) && decide (x0 < nI (List.length l4)))
 ((go k spec_l01In [(.int .i64 (List.getD l4 (Int.toNat x0) (0 : Int))), (.int .i64 (0 : Int)), (.int .i64 ((10000000 : Int)))]).bind fun r0 =>
 cond (!bit (nth r0 0))
 (some [(.bool (false))])
 (cond (decide ((0 : Int) ≤ x0) && decide (x0 < nI (List.length l6)))
 (cond (decide ((0 : Int) ≤ x0) && decide (x0 < nI (List.length l4)))
 ((go k spec_l01In [(.int .i64 (List.getD l6 (Int.toNat x0) (0 : Int))), (.int .i64 (0 : Int)), (.int .i64 (IntKind.wrap .i64 ((1000 : Int) * List.getD l4 (Int.toNat x0) (0 : Int))))]).bind fun r1 =>
 cond (!bit (nth r1 0))
 (some [(.bool (false))])
 (lp k spec_StateOk [] fu 4 n (qib (IntKind.wrap .i64 (x0 + (1 : Int))) z1 l2 z3 l4 z5 l6 z7 l8 x9)))
 (none))
 (none)))
 (none))
 (lp k spec_StateOk [] fu 9 k (qic (0 : Int) z1 l2 z3 l4 z5 l6 z7 l8 x9)) := by kernel_rfl
theorem qfq (k n : Nat) (fu : List (Nat × Nat)) (x0 : Int) (z1 : Bool) (l2 : List (Int × Int × Int)) (z3 : Bool) (l4 : List Int) (z5 : Bool) (l6 : List Int) (z7 : Bool) (l8 : List Int) (x9 : Int) : lp k spec_StateOk [] fu 9 (n + 1) (qic x0 z1 l2 z3 l4 z5 l6 z7 l8 x9) =
 cond (decide (x0 < nI (List.length l8)))
 (cond (decide ((0 : Int) ≤ x0) && decide (x0 < nI (List.length l8)))
 ((go k spec_l01In [(.int .i64 (List.getD l8 (Int.toNat x0) (0 : Int))), (.int .i64 (0 : Int)), (.int .i64 ((1000000 : Int)))]).bind fun r0 =>
 cond (!bit (nth r0 0))
 (some [(.bool (false))])
 (lp k spec_StateOk [] fu 9 n (qic (IntKind.wrap .i64 (x0 + (1 : Int))) z1 l2 z3 l4 z5 l6 z7 l8 x9)))
 (none))
 ((go k spec_l07Sum [(.arr false (z3) (.ints .i64 (l4)))]).bind fun r1 =>
 some [(.bool (decide (D.toInt (nth r1 0) ≤ (10000000 : Int))))]) := by kernel_rfl
theorem qdb (k : Nat) (a0 : Int) (a1z : Bool) (a1 : List (Int × Int × Int)) (a2z : Bool) (a2 : List Int) (a3z : Bool) (a3 : List Int) (a4z : Bool) (a4 : List Int) : go (k + 1) impl_StateOk [(.agg [(.int .i64 (a0)), (.arr false (a1z) (.r3 (a1))), (.arr false (a2z) (.ints .i64 (a2))), (.arr false (a3z) (.ints .i64 (a3))), (.arr false (a4z) (.ints .i64 (a4)))])] =
 (go k impl_IsBalanced [(.agg [(.int .i64 (a0)), (.arr false (a1z) (.r3 (a1)))])]).bind fun r0 =>
 cond (bit (nth r0 0))
 ((go k impl_State_hasCells [(.agg [(.int .i64 (a0)), (.arr false (a1z) (.r3 (a1))), (.arr false (a2z) (.ints .i64 (a2))), (.arr false (a3z) (.ints .i64 (a3))), (.arr false (a4z) (.ints .i64 (a4)))])]).bind fun r1 =>
 some [(.bool (bit (nth r1 0)))])
 (some [(.bool (false))]) := by kernel_rfl
def qht (x0 x1 : Int) (z2 : Bool) (l3 : List (Int × Int × Int)) (z4 : Bool) (l5 : List Int) (z6 : Bool) (l7 : List Int) (z8 : Bool) (l9 : List Int) (x10 : Int) : St := ⟨fill 63 [(1, (.ptr 4 (0) (0))), (37, (.sl 1 none)), (38, (.int .i64 (x0))), (39, (.int .i64 (x1)))], [], [(.arr false (z2) (.r3 (l3))), (.arr false (z4) (.ints .i64 (l5))), (.arr false (z6) (.ints .i64 (l7))), (.arr false (z8) (.ints .i64 (l9))), (.box true [(.int .i64 (x10)), (.sl 0 none), (.sl 1 none), (.sl 2 none), (.sl 3 none)])]⟩
theorem qdc (k : Nat) (a0 : Int) (a1z : Bool) (a1 : List (Int × Int × Int)) (a2z : Bool) (a2 : List Int) (a3z : Bool) (a3 : List Int) (a4z : Bool) (a4 : List Int) : go (k + 1) impl_State_hasCells [(.agg [(.int .i64 (a0)), (.arr false (a1z) (.r3 (a1))), (.arr false (a2z) (.ints .i64 (a2))), (.arr false (a3z) (.ints .i64 (a3))), (.arr false (a4z) (.ints .i64 (a4)))])] =
 cond (!decide (nI (List.length a2) = nI (List.length a1)))
 (some [(.bool (false))])
 (cond (!decide (nI (List.length a3) = nI (List.length a1)))
 (some [(.bool (false))])
 (cond (!decide (nI (List.length a4) = a0))
 (some [(.bool (false))])
 ((go k slices_ContainsFunc_int_int [(.arr false (a4z) (.ints .i64 (a4))), (.fn impl_State_hasCells_1 [])]).bind fun r0 =>
 cond (bit (nth r0 0))
 (some [(.bool (false))])
 (lp k impl_State_hasCells [] [] 5 k (qht (nI (List.length a2)) (0 : Int) a1z a1 a2z a2 a3z a3 a4z a4 a0))))) := by kernel_rfl
theorem qe7 (k n : Nat) (fu : List (Nat × Nat)) (x0 x1 : Int) (z2 : Bool) (l3 : List (Int × Int × Int)) (z4 : Bool) (l5 : List Int) (z6 : Bool) (l7 : List Int) (z8 : Bool) (l9 : List Int) (x10 : Int) : lp k impl_State_hasCells [] fu 5 (n + 1) (qht x0 x1 z2 l3 z4 l5 z6 l7 z8 l9 x10) =
 cond (decide (x1 < x0))
 (cond (decide ((0 : Int) ≤ x1) && decide (x1 < nI (List.length l5)))
 ((go k impl_within [(.int .i64 (List.getD l5 (Int.toNat x1) (0 : Int))), (.int .i64 (0 : Int)), (.int .i64 ((10000000 : Int)))]).bind fun r0 =>
 cond (!bit (nth r0 0))
 (some [(.bool (false))])
 (cond (decide ((0 : Int) ≤ x1) && decide (x1 < nI (List.length l7)))
 ((go k impl_within [(.int .i64 (List.getD l7 (Int.toNat x1) (0 : Int))), (.int .i64 (0 : Int)), (.int .i64 (IntKind.wrap .i64 ((1000 : Int) * List.getD l5 (Int.toNat x1) (0 : Int))))]).bind fun r1 =>
 cond (!bit (nth r1 0))
 (some [(.bool (false))])
 (lp k impl_State_hasCells [] fu 5 n (qht x0 (IntKind.wrap .i64 (x1 + (1 : Int))) z2 l3 z4 l5 z6 l7 z8 l9 x10)))
 (none)))
 (none))
 ((go k impl_sum [(.arr false (z4) (.ints .i64 (l5)))]).bind fun r2 =>
 some [(.bool (decide (D.toInt (nth r2 0) ≤ (10000000 : Int))))]) := by kernel_rfl
theorem qdd (k : Nat) (a : Int) : go (k + 1) impl_State_hasCells_1 [(.int .i64 (a))] =
 (go k impl_isBed [(.int .i64 (a))]).bind fun r0 =>
 some [(.bool (!bit (nth r0 0)))] := by kernel_rfl
theorem qdh (k : Nat) (a : Int) : go (k + 1) impl_isBed [(.int .i64 (a))] =
 (go k impl_within [(.int .i64 (a)), (.int .i64 (0 : Int)), (.int .i64 ((1000000 : Int)))]).bind fun r0 =>
 some [(.bool (bit (nth r0 0)))] := by kernel_rfl
def qie (x0 x1 : Int) (z2 : Bool) (l3 : List Int) : St := ⟨fill 18 [(0, (.sl 0 none)), (3, (.int .i64 (x0))), (4, (.int .i64 (x1)))], [], [(.arr false (z2) (.ints .i64 (l3)))]⟩
theorem qel (k : Nat) (az : Bool) (a : List Int) : go (k + 1) spec_l07Sum [(.arr false (az) (.ints .i64 (a)))] =
 lp k spec_l07Sum [] [] 3 k (qie (0 : Int) (0 : Int) az a) := by kernel_rfl
theorem qfs (k n : Nat) (fu : List (Nat × Nat)) (x0 x1 : Int) (z2 : Bool) (l3 : List Int) : lp k spec_l07Sum [] fu 3 (n + 1) (qie x0 x1 z2 l3) =
 cond (decide (x1 < nI (List.length l3)))
 (cond (decide ((0 : Int) ≤ x1) && decide (x1 < nI (List.length l3)))
 (lp k spec_l07Sum [] fu 3 n (qie (IntKind.wrap .i64 (x0 + List.getD l3 (Int.toNat x1) (0 : Int))) (IntKind.wrap .i64 (x1 + (1 : Int))) z2 l3))
 (none))
 (some [(.int .i64 (x0))]) := by kernel_rfl
def qhu (x0 x1 x2 : Int) (z3 : Bool) (l4 : List Int) : St := ⟨fill 17 [(3, (.int .i64 (x0))), (6, (.sl 0 none)), (7, (.int .i64 (x1))), (8, (.int .i64 (x2)))], [], [(.arr false (z3) (.ints .i64 (l4)))]⟩
theorem qdj (k : Nat) (az : Bool) (a : List Int) : go (k + 1) impl_sum [(.arr false (az) (.ints .i64 (a)))] =
 lp k impl_sum [] [] 3 k (qhu (0 : Int) (nI (List.length a)) (0 : Int) az a) := by kernel_rfl
theorem qe8 (k n : Nat) (fu : List (Nat × Nat)) (x0 x1 x2 : Int) (z3 : Bool) (l4 : List Int) : lp k impl_sum [] fu 3 (n + 1) (qhu x0 x1 x2 z3 l4) =
 cond (decide (x2 < x1))
 (cond (decide ((0 : Int) ≤ x2) && decide (x2 < nI (List.length l4)))
 (lp k impl_sum [] fu 3 n (qhu (IntKind.wrap .i64 (x0 + List.getD l4 (Int.toNat x2) (0 : Int))) x1 (IntKind.wrap .i64 (x2 + (1 : Int))) z3 l4))
 (none))
 (some [(.int .i64 (x0))]) := by kernel_rfl
def qh6 (x0 x1 : Int) (z2 : Bool) (l3 : List Int) : St := ⟨fill 19 [(0, (.sl 0 none)), (1, (.fn impl_State_hasCells_1 [])), (7, (.int .i64 (x0))), (8, (.int .i64 (x1)))], [], [(.arr false (z2) (.ints .i64 (l3)))]⟩
theorem qd9 (k : Nat) (v0 : Bool) (v1 : List Int) : go (k + 1) slices_IndexFunc_int_int [(.arr false (v0) (.ints .i64 (v1))), (.fn impl_State_hasCells_1 [])] =
 lp k slices_IndexFunc_int_int [] [] 2 k (qh6 (nI (List.length v1)) (0 : Int) v0 v1) := by kernel_rfl
theorem qfk (k n : Nat) (fu : List (Nat × Nat)) (x0 x1 : Int) (z2 : Bool) (l3 : List Int) : lp k slices_IndexFunc_int_int [] fu 2 (n + 1) (qh6 x0 x1 z2 l3) =
 cond (decide (x1 < x0))
 (cond (decide ((0 : Int) ≤ x1) && decide (x1 < nI (List.length l3)))
 ((go k impl_State_hasCells_1 [(.int .i64 (List.getD l3 (Int.toNat x1) (0 : Int)))]).bind fun r0 =>
 cond (bit (nth r0 0))
 (some [(.int .i64 (x1))])
 (lp k slices_IndexFunc_int_int [] fu 2 n (qh6 x0 (IntKind.wrap .i64 (x1 + (1 : Int))) z2 l3)))
 (none))
 (some [(.int .i64 ((-1 : Int)))]) := by kernel_rfl
theorem qd6 (k : Nat) (v0 : Bool) (v1 : List Int) : go (k + 1) slices_ContainsFunc_int_int [(.arr false (v0) (.ints .i64 (v1))), (.fn impl_State_hasCells_1 [])] =
 (go k slices_IndexFunc_int_int [(.arr false (v0) (.ints .i64 (v1))), (.fn impl_State_hasCells_1 [])]).bind fun r0 =>
 some [(.bool (decide ((0 : Int) ≤ D.toInt (nth r0 0))))] := by kernel_rfl
theorem qd4 (k : Nat) (az : Bool) (a : List Int) : go (k + 1) slices_Clone_int_int [(.arr false (az) (.ints .i64 (a)))] =
 cond (az)
 (some [(.arr true (true) (.ints .i64 ([])))])
 (cond (decide (List.length ([] ++ a) ≤ bigLen))
 (some [(.arr true (false && decide (List.length ([] ++ a) = 0)) (.ints .i64 ([] ++ a)))])
 (none)) := by kernel_rfl
end Go.Proofs.Ytcaapedadpnjoaa
end
section
namespace Go.Proofs.Ytcaapedadpnjoaa
open Go.Ev
theorem qcv {α : Type} (a : Bool) (x y : α) : cond (!a) x y = cond a y x := by cases a <;> rfl
theorem qct {α : Type} (a b : Bool) (x y : α) : cond a (cond b x y) y = cond (a && b) x y := by cases a <;> rfl
abbrev qfv (l : List Cell) (i : Nat) : Int := (l.getD i zz3).2.1
def qaa (l : List Cell) : Prop := ∀ i, 0 ≤ qfv l i ∧ qfv l i ≤ 4
theorem qg1 : ∀ (l : List Cell) (r p : Int), qgx r p l = true → ∀ i, 0 ≤ qfv l i ∧ qfv l i ≤ 4
  | [], r, p, h, i => by simp [qfv]
  | x :: l, r, p, h, i => by
    simp only [qgx, Bool.and_eq_true] at h
    cases i with
    | zero => have := lev0 (qey h.1).2.2.1; simpa [qfv] using this
    | succ i => have := qg1 l r _ h.2.2 i; simpa [qfv] using this
def qi4 (l : List Cell) : Nat → Nat → Int
  | 0, _ => -1
  | n + 1, i => if 1 < qfv l i - qfv l (i + 1) ∨ qfv l i - qfv l (i + 1) < -1 then (i : Int) else qi4 l n (i + 1)
def unb (l : List Cell) : Int := qi4 l (l.length - 1) 0
theorem qav (k : Nat) (hk : 2000000 ≤ k) (a : Int) (h : -9223372036854775807 ≤ a) (h' : a ≤ 9223372036854775807) : go (k + 1) impl_absolute [(.int .i64 (a))] = some [.int .i64 (max (0 - a) a)] := by
  rw [qdf]; simp (disch := omega) only [qah, nth0, nth1, nth2, nth3, bit, qb3, qb4, qcf, qck, qcl, qcm, qcn, qco, qcp, qcq, qb5, qb6, qb7, qb8, qb9, qca, qcb, qcc, qcd, qce, qcg, qch, qci, qcj, qix, qiw, qiy, qg8, qhg, qhh, qe0, qai, qiq, nI, qcw, qcu, Bool.not_true, Bool.not_false, Bool.and_true, Bool.true_and, Bool.and_false, Bool.false_and, Bool.or_true, Bool.true_or, Bool.or_false, Bool.false_or, beq_self_eq_true, dTT, dFF, dT, dF, bigI, big0, qg7, qi9, qja, List.length_set, List.length_replicate, Int.toNat_natCast, qb1, qb2, imax, imin]
theorem qgn (k : Nat) (hk : 2000000 ≤ k) (fu : List (Nat × Nat)) (z : Bool) (l : List Cell) (r : Int) (hl : (l.length : Int) ≤ 1048576) (hv : qaa l) : ∀ (n i : Nat), i ≤ l.length → l.length - 1 - i < n →
    lp k spec_l05First [] fu 2 (n) (qid (i : Int) z l r) = some [.int .i64 (qi4 l (l.length - 1 - i) i)]
  | 0, i, hi, hn => by omega
  | n + 1, i, hi, hn => by
    rw [qfr]
    by_cases h : i + 1 < l.length
    · have e := qgn k hk fu z l r hl hv n (i + 1) (by omega) (by omega)
      have h1 := hv i; have h2 := hv (i + 1)
      simp only [qfv] at h1 h2
      simp (disch := omega) only [qah, nth0, nth1, nth2, nth3, bit, qb3, qb4, qcf, qck, qcl, qcm, qcn, qco, qcp, qcq, qb5, qb6, qb7, qb8, qb9, qca, qcb, qcc, qcd, qce, qcg, qch, qci, qcj, qix, qiw, qiy, qg8, qhg, qhh, qe0, qai, qiq, nI, qcw, qcu, Bool.not_true, Bool.not_false, Bool.and_true, Bool.true_and, Bool.and_false, Bool.false_and, Bool.or_true, Bool.true_or, Bool.or_false, Bool.false_or, beq_self_eq_true, dTT, dFF, dT, dF, bigI, big0, qg7, qi9, qja, List.length_set, List.length_replicate, Int.toNat_natCast, qb1, qb2, imax, imin, e]
      rw [show l.length - 1 - i = (l.length - 1 - (i + 1)) + 1 by omega, qi4]
      simp only [qfv]
      by_cases g : 1 < (l.getD i zz3).2.1 - (l.getD (i + 1) zz3).2.1
      · simp (disch := omega) only [qah, nth0, nth1, nth2, nth3, bit, qb3, qb4, qcf, qck, qcl, qcm, qcn, qco, qcp, qcq, qb5, qb6, qb7, qb8, qb9, qca, qcb, qcc, qcd, qce, qcg, qch, qci, qcj, qix, qiw, qiy, qg8, qhg, qhh, qe0, qai, qiq, nI, qcw, qcu, Bool.not_true, Bool.not_false, Bool.and_true, Bool.true_and, Bool.and_false, Bool.false_and, Bool.or_true, Bool.true_or, Bool.or_false, Bool.false_or, beq_self_eq_true, dTT, dFF, dT, dF, bigI, big0, qg7, qi9, qja, List.length_set, List.length_replicate, Int.toNat_natCast, qb1, qb2, imax, imin]; rw [if_pos (Or.inl g)]
      · by_cases g2 : (l.getD i zz3).2.1 - (l.getD (i + 1) zz3).2.1 < -1
        · simp (disch := omega) only [qah, nth0, nth1, nth2, nth3, bit, qb3, qb4, qcf, qck, qcl, qcm, qcn, qco, qcp, qcq, qb5, qb6, qb7, qb8, qb9, qca, qcb, qcc, qcd, qce, qcg, qch, qci, qcj, qix, qiw, qiy, qg8, qhg, qhh, qe0, qai, qiq, nI, qcw, qcu, Bool.not_true, Bool.not_false, Bool.and_true, Bool.true_and, Bool.and_false, Bool.false_and, Bool.or_true, Bool.true_or, Bool.or_false, Bool.false_or, beq_self_eq_true, dTT, dFF, dT, dF, bigI, big0, qg7, qi9, qja, List.length_set, List.length_replicate, Int.toNat_natCast, qb1, qb2, imax, imin]; rw [if_pos (Or.inr g2)]
        · simp (disch := omega) only [qah, nth0, nth1, nth2, nth3, bit, qb3, qb4, qcf, qck, qcl, qcm, qcn, qco, qcp, qcq, qb5, qb6, qb7, qb8, qb9, qca, qcb, qcc, qcd, qce, qcg, qch, qci, qcj, qix, qiw, qiy, qg8, qhg, qhh, qe0, qai, qiq, nI, qcw, qcu, Bool.not_true, Bool.not_false, Bool.and_true, Bool.true_and, Bool.and_false, Bool.false_and, Bool.or_true, Bool.true_or, Bool.or_false, Bool.false_or, beq_self_eq_true, dTT, dFF, dT, dF, bigI, big0, qg7, qi9, qja, List.length_set, List.length_replicate, Int.toNat_natCast, qb1, qb2, imax, imin]; rw [if_neg (not_or.2 ⟨g, g2⟩)]
    · simp (disch := omega) only [qah, nth0, nth1, nth2, nth3, bit, qb3, qb4, qcf, qck, qcl, qcm, qcn, qco, qcp, qcq, qb5, qb6, qb7, qb8, qb9, qca, qcb, qcc, qcd, qce, qcg, qch, qci, qcj, qix, qiw, qiy, qg8, qhg, qhh, qe0, qai, qiq, nI, qcw, qcu, Bool.not_true, Bool.not_false, Bool.and_true, Bool.true_and, Bool.and_false, Bool.false_and, Bool.or_true, Bool.true_or, Bool.or_false, Bool.false_or, beq_self_eq_true, dTT, dFF, dT, dF, bigI, big0, qg7, qi9, qja, List.length_set, List.length_replicate, Int.toNat_natCast, qb1, qb2, imax, imin]
      rw [show l.length - 1 - i = 0 by omega]; rfl
theorem qbz (k : Nat) (hk : 2000000 ≤ k) (a0 : Int) (a1z : Bool) (a1 : List (Int × Int × Int)) (hl : (a1.length : Int) ≤ 1048576) (hv : qaa a1) : go (k + 1) spec_l05First [(.agg [(.int .i64 (a0)), (.arr false (a1z) (.r3 (a1)))])] = some [.int .i64 (unb a1)] := by
  rw [qek]
  exact qgn k hk [] a1z a1 a0 hl hv _ 0 (by omega) (by omega)
theorem qf7 (k : Nat) (hk : 2000000 ≤ k) (fu : List (Nat × Nat)) (z : Bool) (l : List Cell) (r : Int) (hl : (l.length : Int) ≤ 1048576) (hv : qaa l) : ∀ (n i : Nat), i ≤ l.length → l.length - 1 - i < n →
    lp (k + 1) impl_Mesh_unbalanced [] fu 2 (n) (qhs ((l.length : Int) - 1) (i : Int) z l r) = some [.int .i64 (qi4 l (l.length - 1 - i) i)]
  | 0, i, hi, hn => by omega
  | n + 1, i, hi, hn => by
    rw [qe6]
    by_cases h : i + 1 < l.length
    · have e := qf7 k hk fu z l r hl hv n (i + 1) (by omega) (by omega)
      have h1 := hv i; have h2 := hv (i + 1)
      simp only [qfv] at h1 h2
      simp (disch := omega) only [qah, nth0, nth1, nth2, nth3, bit, qb3, qb4, qcf, qck, qcl, qcm, qcn, qco, qcp, qcq, qb5, qb6, qb7, qb8, qb9, qca, qcb, qcc, qcd, qce, qcg, qch, qci, qcj, qix, qiw, qiy, qg8, qhg, qhh, qe0, qai, qiq, nI, qcw, qcu, Bool.not_true, Bool.not_false, Bool.and_true, Bool.true_and, Bool.and_false, Bool.false_and, Bool.or_true, Bool.true_or, Bool.or_false, Bool.false_or, beq_self_eq_true, dTT, dFF, dT, dF, bigI, big0, qg7, qi9, qja, List.length_set, List.length_replicate, Int.toNat_natCast, qb1, qb2, imax, imin, e, qav]
      rw [show l.length - 1 - i = (l.length - 1 - (i + 1)) + 1 by omega, qi4]
      simp only [qfv]
      by_cases g : 1 < (l.getD i zz3).2.1 - (l.getD (i + 1) zz3).2.1
      · simp (disch := omega) only [qah, nth0, nth1, nth2, nth3, bit, qb3, qb4, qcf, qck, qcl, qcm, qcn, qco, qcp, qcq, qb5, qb6, qb7, qb8, qb9, qca, qcb, qcc, qcd, qce, qcg, qch, qci, qcj, qix, qiw, qiy, qg8, qhg, qhh, qe0, qai, qiq, nI, qcw, qcu, Bool.not_true, Bool.not_false, Bool.and_true, Bool.true_and, Bool.and_false, Bool.false_and, Bool.or_true, Bool.true_or, Bool.or_false, Bool.false_or, beq_self_eq_true, dTT, dFF, dT, dF, bigI, big0, qg7, qi9, qja, List.length_set, List.length_replicate, Int.toNat_natCast, qb1, qb2, imax, imin]; rw [if_pos (Or.inl g)]
      · by_cases g2 : (l.getD i zz3).2.1 - (l.getD (i + 1) zz3).2.1 < -1
        · simp (disch := omega) only [qah, nth0, nth1, nth2, nth3, bit, qb3, qb4, qcf, qck, qcl, qcm, qcn, qco, qcp, qcq, qb5, qb6, qb7, qb8, qb9, qca, qcb, qcc, qcd, qce, qcg, qch, qci, qcj, qix, qiw, qiy, qg8, qhg, qhh, qe0, qai, qiq, nI, qcw, qcu, Bool.not_true, Bool.not_false, Bool.and_true, Bool.true_and, Bool.and_false, Bool.false_and, Bool.or_true, Bool.true_or, Bool.or_false, Bool.false_or, beq_self_eq_true, dTT, dFF, dT, dF, bigI, big0, qg7, qi9, qja, List.length_set, List.length_replicate, Int.toNat_natCast, qb1, qb2, imax, imin]; rw [if_pos (Or.inr g2)]
        · simp (disch := omega) only [qah, nth0, nth1, nth2, nth3, bit, qb3, qb4, qcf, qck, qcl, qcm, qcn, qco, qcp, qcq, qb5, qb6, qb7, qb8, qb9, qca, qcb, qcc, qcd, qce, qcg, qch, qci, qcj, qix, qiw, qiy, qg8, qhg, qhh, qe0, qai, qiq, nI, qcw, qcu, Bool.not_true, Bool.not_false, Bool.and_true, Bool.true_and, Bool.and_false, Bool.false_and, Bool.or_true, Bool.true_or, Bool.or_false, Bool.false_or, beq_self_eq_true, dTT, dFF, dT, dF, bigI, big0, qg7, qi9, qja, List.length_set, List.length_replicate, Int.toNat_natCast, qb1, qb2, imax, imin]; rw [if_neg (not_or.2 ⟨g, g2⟩)]
    · simp (disch := omega) only [qah, nth0, nth1, nth2, nth3, bit, qb3, qb4, qcf, qck, qcl, qcm, qcn, qco, qcp, qcq, qb5, qb6, qb7, qb8, qb9, qca, qcb, qcc, qcd, qce, qcg, qch, qci, qcj, qix, qiw, qiy, qg8, qhg, qhh, qe0, qai, qiq, nI, qcw, qcu, Bool.not_true, Bool.not_false, Bool.and_true, Bool.true_and, Bool.and_false, Bool.false_and, Bool.or_true, Bool.true_or, Bool.or_false, Bool.false_or, beq_self_eq_true, dTT, dFF, dT, dF, bigI, big0, qg7, qi9, qja, List.length_set, List.length_replicate, Int.toNat_natCast, qb1, qb2, imax, imin]
      rw [show l.length - 1 - i = 0 by omega]; rfl
theorem qa2 (k : Nat) (hk : 2000000 ≤ k) (a0 : Int) (a1z : Bool) (a1 : List (Int × Int × Int)) (hl : (a1.length : Int) ≤ 1048576) (hv : qaa a1) : go (k + 2) impl_Mesh_unbalanced [(.agg [(.int .i64 (a0)), (.arr false (a1z) (.r3 (a1)))])] = some [.int .i64 (unb a1)] := by
  rw [qc8]
  simp (disch := omega) only [qah, nth0, nth1, nth2, nth3, bit, qb3, qb4, qcf, qck, qcl, qcm, qcn, qco, qcp, qcq, qb5, qb6, qb7, qb8, qb9, qca, qcb, qcc, qcd, qce, qcg, qch, qci, qcj, qix, qiw, qiy, qg8, qhg, qhh, qe0, qai, qiq, nI, qcw, qcu, Bool.not_true, Bool.not_false, Bool.and_true, Bool.true_and, Bool.and_false, Bool.false_and, Bool.or_true, Bool.true_or, Bool.or_false, Bool.false_or, beq_self_eq_true, dTT, dFF, dT, dF, bigI, big0, qg7, qi9, qja, List.length_set, List.length_replicate, Int.toNat_natCast, qb1, qb2, imax, imin]
  exact qf7 k hk [] a1z a1 a0 hl hv _ 0 (by omega) (by omega)
def qaf (r : Int) (l : List Cell) : Bool := qgx r 0 l && decide (unb l < 0)
theorem qbr (k : Nat) (hk : 2000000 ≤ k) (a0 : Int) (a1z : Bool) (a1 : List (Int × Int × Int)) (hl : (a1.length : Int) ≤ 1048576) : go (k + 6) spec_IsBalanced [(.agg [(.int .i64 (a0)), (.arr false (a1z) (.r3 (a1)))])] = some [.bool (qaf a0 a1)] := by
  rw [qec]
  simp (disch := omega) only [qah, nth0, nth1, nth2, nth3, bit, qb3, qb4, qcf, qck, qcl, qcm, qcn, qco, qcp, qcq, qb5, qb6, qb7, qb8, qb9, qca, qcb, qcc, qcd, qce, qcg, qch, qci, qcj, qix, qiw, qiy, qg8, qhg, qhh, qe0, qai, qiq, nI, qcw, qcu, Bool.not_true, Bool.not_false, Bool.and_true, Bool.true_and, Bool.and_false, Bool.false_and, Bool.or_true, Bool.true_or, Bool.or_false, Bool.false_or, beq_self_eq_true, dTT, dFF, dT, dF, bigI, big0, qg7, qi9, qja, List.length_set, List.length_replicate, Int.toNat_natCast, qb1, qb2, imax, imin, qbs]
  unfold qaf
  cases h : qgx a0 0 a1
  · rfl
  · have hv : qaa a1 := qg1 _ _ _ h
    simp (disch := omega) only [qah, nth0, nth1, nth2, nth3, bit, qb3, qb4, qcf, qck, qcl, qcm, qcn, qco, qcp, qcq, qb5, qb6, qb7, qb8, qb9, qca, qcb, qcc, qcd, qce, qcg, qch, qci, qcj, qix, qiw, qiy, qg8, qhg, qhh, qe0, qai, qiq, nI, qcw, qcu, Bool.not_true, Bool.not_false, Bool.and_true, Bool.true_and, Bool.and_false, Bool.false_and, Bool.or_true, Bool.true_or, Bool.or_false, Bool.false_or, beq_self_eq_true, dTT, dFF, dT, dF, bigI, big0, qg7, qi9, qja, List.length_set, List.length_replicate, Int.toNat_natCast, qb1, qb2, imax, imin, qbz k hk]
    rw [qbz _ (by omega) _ _ _ hl hv]; simp (disch := omega) only [qah, nth0, nth1, nth2, nth3, bit, qb3, qb4, qcf, qck, qcl, qcm, qcn, qco, qcp, qcq, qb5, qb6, qb7, qb8, qb9, qca, qcb, qcc, qcd, qce, qcg, qch, qci, qcj, qix, qiw, qiy, qg8, qhg, qhh, qe0, qai, qiq, nI, qcw, qcu, Bool.not_true, Bool.not_false, Bool.and_true, Bool.true_and, Bool.and_false, Bool.false_and, Bool.or_true, Bool.true_or, Bool.or_false, Bool.false_or, beq_self_eq_true, dTT, dFF, dT, dF, bigI, big0, qg7, qi9, qja, List.length_set, List.length_replicate, Int.toNat_natCast, qb1, qb2, imax, imin]
theorem qap (k : Nat) (hk : 2000000 ≤ k) (a0 : Int) (a1z : Bool) (a1 : List (Int × Int × Int)) (hl : (a1.length : Int) ≤ 1048576) : go (k + 7) impl_IsBalanced [(.agg [(.int .i64 (a0)), (.arr false (a1z) (.r3 (a1)))])] = some [.bool (qaf a0 a1)] := by
  rw [qc6]
  simp (disch := omega) only [qah, nth0, nth1, nth2, nth3, bit, qb3, qb4, qcf, qck, qcl, qcm, qcn, qco, qcp, qcq, qb5, qb6, qb7, qb8, qb9, qca, qcb, qcc, qcd, qce, qcg, qch, qci, qcj, qix, qiw, qiy, qg8, qhg, qhh, qe0, qai, qiq, nI, qcw, qcu, Bool.not_true, Bool.not_false, Bool.and_true, Bool.true_and, Bool.and_false, Bool.false_and, Bool.or_true, Bool.true_or, Bool.or_false, Bool.false_or, beq_self_eq_true, dTT, dFF, dT, dF, bigI, big0, qg7, qi9, qja, List.length_set, List.length_replicate, Int.toNat_natCast, qb1, qb2, imax, imin, qaq]
  unfold qaf
  cases h : qgx a0 0 a1
  · rfl
  · have hv : qaa a1 := qg1 _ _ _ h
    rw [qcw, qa2 _ (by omega) _ _ _ hl hv]; simp (disch := omega) only [qah, nth0, nth1, nth2, nth3, bit, qb3, qb4, qcf, qck, qcl, qcm, qcn, qco, qcp, qcq, qb5, qb6, qb7, qb8, qb9, qca, qcb, qcc, qcd, qce, qcg, qch, qci, qcj, qix, qiw, qiy, qg8, qhg, qhh, qe0, qai, qiq, nI, qcw, qcu, Bool.not_true, Bool.not_false, Bool.and_true, Bool.true_and, Bool.and_false, Bool.false_and, Bool.or_true, Bool.true_or, Bool.or_false, Bool.false_or, beq_self_eq_true, dTT, dFF, dT, dF, bigI, big0, qg7, qi9, qja, List.length_set, List.length_replicate, Int.toNat_natCast, qb1, qb2, imax, imin]
def isum : List Int → Int
  | [] => 0
  | x :: l => x + isum l
theorem qe2 {B : Int} : ∀ (l : List Int), (∀ x ∈ l, 0 ≤ x ∧ x ≤ B) → 0 ≤ isum l ∧ isum l ≤ B * l.length
  | [], h => by simp [isum]
  | x :: l, h => by
    have := qe2 l fun y hy => h y (by simp [hy])
    have h2 := h x (by simp)
    simp only [isum, List.length_cons, Int.natCast_add, Int.natCast_one, Int.mul_add, Int.mul_one]; omega
theorem qe1 {B : Int} (hB : 0 ≤ B) : ∀ (l : List Int) (i : Nat), (∀ x ∈ l, 0 ≤ x ∧ x ≤ B) → 0 ≤ isum (l.drop i) ∧ isum (l.drop i) ≤ isum l
  | [], i, h => by simp [isum]
  | x :: l, 0, h => by have := qe2 (x :: l) h; simp only [List.drop_zero]; omega
  | x :: l, i + 1, h => by
    have := qe1 hB l i fun y hy => h y (by simp [hy])
    have h2 := h x (by simp)
    simp only [isum, List.drop_succ_cons]; omega
theorem qgo (k : Nat) (hk : 2000000 ≤ k) (fu : List (Nat × Nat)) (z : Bool) (l : List Int) (hl : (l.length : Int) ≤ 1048576) (hb : ∀ x ∈ l, 0 ≤ x ∧ x ≤ 1000000000000) : ∀ (n i : Nat) (s : Int), i ≤ l.length → l.length - i < n → s + isum (l.drop i) = isum l → 0 ≤ s →
    lp k spec_l07Sum [] fu 3 (n) (qie s (i : Int) z l) = some [.int .i64 (isum l)]
  | 0, i, s, hi, hn, hs, h0 => by omega
  | n + 1, i, s, hi, hn, hs, h0 => by
    rw [qfs]
    by_cases h : i < l.length
    · rw [qcz h 0] at hs
      simp only [isum] at hs
      have h1 := qe2 l hb
      have h2 := qe1 (by omega) l (i + 1) hb
      have h3 := hb _ (qew h 0)
      simp (disch := omega) only [qah, nth0, nth1, nth2, nth3, bit, qb3, qb4, qcf, qck, qcl, qcm, qcn, qco, qcp, qcq, qb5, qb6, qb7, qb8, qb9, qca, qcb, qcc, qcd, qce, qcg, qch, qci, qcj, qix, qiw, qiy, qg8, qhg, qhh, qe0, qai, qiq, nI, qcw, qcu, Bool.not_true, Bool.not_false, Bool.and_true, Bool.true_and, Bool.and_false, Bool.false_and, Bool.or_true, Bool.true_or, Bool.or_false, Bool.false_or, beq_self_eq_true, dTT, dFF, dT, dF, bigI, big0, qg7, qi9, qja, List.length_set, List.length_replicate, Int.toNat_natCast, qb1, qb2, imax, imin]
      exact qgo k hk fu z l hl hb n (i + 1) _ (by omega) (by omega) (by omega) (by omega)
    · rw [List.drop_of_length_le (by omega)] at hs
      simp only [isum] at hs
      simp (disch := omega) only [qah, nth0, nth1, nth2, nth3, bit, qb3, qb4, qcf, qck, qcl, qcm, qcn, qco, qcp, qcq, qb5, qb6, qb7, qb8, qb9, qca, qcb, qcc, qcd, qce, qcg, qch, qci, qcj, qix, qiw, qiy, qg8, qhg, qhh, qe0, qai, qiq, nI, qcw, qcu, Bool.not_true, Bool.not_false, Bool.and_true, Bool.true_and, Bool.and_false, Bool.false_and, Bool.or_true, Bool.true_or, Bool.or_false, Bool.false_or, beq_self_eq_true, dTT, dFF, dT, dF, bigI, big0, qg7, qi9, qja, List.length_set, List.length_replicate, Int.toNat_natCast, qb1, qb2, imax, imin]
      rw [show s = isum l by omega]
theorem qb0 (k : Nat) (hk : 2000000 ≤ k) (az : Bool) (a : List Int) (hl : (a.length : Int) ≤ 1048576) (hb : ∀ x ∈ a, 0 ≤ x ∧ x ≤ 1000000000000) : go (k + 1) spec_l07Sum [(.arr false (az) (.ints .i64 (a)))] = some [.int .i64 (isum a)] := by
  rw [qel]
  exact qgo k hk [] az a hl hb _ 0 0 (by omega) (by omega) (by simp) (by omega)
theorem qf6 (k : Nat) (hk : 2000000 ≤ k) (fu : List (Nat × Nat)) (z : Bool) (l : List Int) (hl : (l.length : Int) ≤ 1048576) (hb : ∀ x ∈ l, 0 ≤ x ∧ x ≤ 1000000000000) : ∀ (n i : Nat) (s : Int), i ≤ l.length → l.length - i < n → s + isum (l.drop i) = isum l → 0 ≤ s →
    lp k impl_sum [] fu 3 (n) (qhu s (l.length : Int) (i : Int) z l) = some [.int .i64 (isum l)]
  | 0, i, s, hi, hn, hs, h0 => by omega
  | n + 1, i, s, hi, hn, hs, h0 => by
    rw [qe8]
    by_cases h : i < l.length
    · rw [qcz h 0] at hs
      simp only [isum] at hs
      have h1 := qe2 l hb
      have h2 := qe1 (by omega) l (i + 1) hb
      have h3 := hb _ (qew h 0)
      simp (disch := omega) only [qah, nth0, nth1, nth2, nth3, bit, qb3, qb4, qcf, qck, qcl, qcm, qcn, qco, qcp, qcq, qb5, qb6, qb7, qb8, qb9, qca, qcb, qcc, qcd, qce, qcg, qch, qci, qcj, qix, qiw, qiy, qg8, qhg, qhh, qe0, qai, qiq, nI, qcw, qcu, Bool.not_true, Bool.not_false, Bool.and_true, Bool.true_and, Bool.and_false, Bool.false_and, Bool.or_true, Bool.true_or, Bool.or_false, Bool.false_or, beq_self_eq_true, dTT, dFF, dT, dF, bigI, big0, qg7, qi9, qja, List.length_set, List.length_replicate, Int.toNat_natCast, qb1, qb2, imax, imin]
      exact qf6 k hk fu z l hl hb n (i + 1) _ (by omega) (by omega) (by omega) (by omega)
    · rw [List.drop_of_length_le (by omega)] at hs
      simp only [isum] at hs
      simp (disch := omega) only [qah, nth0, nth1, nth2, nth3, bit, qb3, qb4, qcf, qck, qcl, qcm, qcn, qco, qcp, qcq, qb5, qb6, qb7, qb8, qb9, qca, qcb, qcc, qcd, qce, qcg, qch, qci, qcj, qix, qiw, qiy, qg8, qhg, qhh, qe0, qai, qiq, nI, qcw, qcu, Bool.not_true, Bool.not_false, Bool.and_true, Bool.true_and, Bool.and_false, Bool.false_and, Bool.or_true, Bool.true_or, Bool.or_false, Bool.false_or, beq_self_eq_true, dTT, dFF, dT, dF, bigI, big0, qg7, qi9, qja, List.length_set, List.length_replicate, Int.toNat_natCast, qb1, qb2, imax, imin]
      rw [show s = isum l by omega]
theorem qa1 (k : Nat) (hk : 2000000 ≤ k) (az : Bool) (a : List Int) (hl : (a.length : Int) ≤ 1048576) (hb : ∀ x ∈ a, 0 ≤ x ∧ x ≤ 1000000000000) : go (k + 1) impl_sum [(.arr false (az) (.ints .i64 (a)))] = some [.int .i64 (isum a)] := by
  rw [qdj]
  exact qf6 k hk [] az a hl hb _ 0 0 (by omega) (by omega) (by simp) (by omega)
def qgu : List Int → List Int → Bool
  | m :: ms, t :: ts => inR m 0 10000000 && (inR t 0 (1000 * m) && qgu ms ts)
  | _, _ => true
theorem qgw : ∀ (ms ts : List Int), ms.length = ts.length → qgu ms ts = true → (∀ x ∈ ms, 0 ≤ x ∧ x ≤ 10000000) ∧ (∀ x ∈ ts, 0 ≤ x ∧ x ≤ 10000000000)
  | [], ts, hl, h => by cases ts <;> simp_all
  | m :: ms, [], hl, h => by simp at hl
  | m :: ms, t :: ts, hl, h => by
    simp only [qgu, Bool.and_eq_true, qez] at h
    have := qgw ms ts (by simpa using hl) h.2.2
    refine ⟨fun x hx => ?_, fun x hx => ?_⟩
    · rcases List.mem_cons.1 hx with rfl | hx
      · exact h.1
      · exact this.1 x hx
    · rcases List.mem_cons.1 hx with rfl | hx
      · omega
      · exact this.2 x hx
theorem qgv : ∀ (ms ts : List Int), ms.length = ts.length → qgu ms ts = true → ∀ i, 0 ≤ ms.getD i 0 ∧ ms.getD i 0 ≤ 10000000 ∧ 0 ≤ ts.getD i 0 ∧ ts.getD i 0 ≤ 1000 * ms.getD i 0
  | [], ts, hl, h, i => by cases ts <;> simp_all
  | m :: ms, [], hl, h, i => by simp at hl
  | m :: ms, t :: ts, hl, h, i => by
    simp only [qgu, Bool.and_eq_true, qez] at h
    cases i with
    | zero => simp; omega
    | succ i => have := qgv ms ts (by simpa using hl) h.2.2 i; simpa using this
def qag : List Int → Bool
  | [] => true
  | b :: l => inR b 0 1000000 && qag l
def stOk (r : Int) (l : List Cell) (m t b : List Int) : Bool :=
  qaf r l && (decide (m.length = l.length) && (decide (t.length = l.length) && (decide ((b.length : Int) = r) && (qgu m t && (qag b && decide (isum m ≤ 10000000))))))
theorem qgm (k : Nat) (hk : 2000000 ≤ k) (fu : List (Nat × Nat)) (r : Int) (z1 z2 z3 z4 : Bool) (l : List Cell) (m t b : List Int) (hm : (m.length : Int) ≤ 1048576) (hb : (b.length : Int) ≤ 1048576) (hx : ∀ x ∈ m, 0 ≤ x ∧ x ≤ 10000000) : ∀ (n i : Nat), i ≤ b.length → b.length - i < n →
    lp (k + 6) spec_StateOk [] fu 9 (n) (qic (i : Int) z1 l z2 m z3 t z4 b r) = some [.bool (qag (b.drop i) && decide (isum m ≤ 10000000))]
  | 0, i, hi, hn => by omega
  | n + 1, i, hi, hn => by
    rw [qfq]
    by_cases h : i < b.length
    · rw [qcz h 0]
      have e := qgm k hk fu r z1 z2 z3 z4 l m t b hm hb hx n (i + 1) (by omega) (by omega)
      simp (disch := omega) only [qah, nth0, nth1, nth2, nth3, bit, qb3, qb4, qcf, qck, qcl, qcm, qcn, qco, qcp, qcq, qb5, qb6, qb7, qb8, qb9, qca, qcb, qcc, qcd, qce, qcg, qch, qci, qcj, qix, qiw, qiy, qg8, qhg, qhh, qe0, qai, qiq, nI, qcw, qcu, Bool.not_true, Bool.not_false, Bool.and_true, Bool.true_and, Bool.and_false, Bool.false_and, Bool.or_true, Bool.true_or, Bool.or_false, Bool.false_or, beq_self_eq_true, dTT, dFF, dT, dF, bigI, big0, qg7, qi9, qja, List.length_set, List.length_replicate, Int.toNat_natCast, qb1, qb2, imax, imin, qbx, qag, e, qcx, Bool.and_assoc]
    · rw [List.drop_of_length_le (by omega)]
      have hx' : ∀ x ∈ m, 0 ≤ x ∧ x ≤ 1000000000000 := fun x hh => by have := hx x hh; omega
      rw [show decide ((i : Int) < nI b.length) = false by apply dF; simp only [nI]; omega, qcu, qb0 _ (by omega) _ _ hm hx']
      simp (disch := omega) only [qah, nth0, nth1, nth2, nth3, bit, qb3, qb4, qcf, qck, qcl, qcm, qcn, qco, qcp, qcq, qb5, qb6, qb7, qb8, qb9, qca, qcb, qcc, qcd, qce, qcg, qch, qci, qcj, qix, qiw, qiy, qg8, qhg, qhh, qe0, qai, qiq, nI, qcw, qcu, Bool.not_true, Bool.not_false, Bool.and_true, Bool.true_and, Bool.and_false, Bool.false_and, Bool.or_true, Bool.true_or, Bool.or_false, Bool.false_or, beq_self_eq_true, dTT, dFF, dT, dF, bigI, big0, qg7, qi9, qja, List.length_set, List.length_replicate, Int.toNat_natCast, qb1, qb2, imax, imin, qag]
theorem qgl (k : Nat) (hk : 2000000 ≤ k) (fu : List (Nat × Nat)) (r : Int) (z1 z2 z3 z4 : Bool) (l : List Cell) (m t b : List Int) (hm : (m.length : Int) ≤ 1048576) (ht : t.length = m.length) : ∀ (n i : Nat), i ≤ m.length → m.length - i < n →
    lp (k + 6) spec_StateOk [] fu 4 (n) (qib (i : Int) z1 l z2 m z3 t z4 b r) = cond (qgu (m.drop i) (t.drop i)) (lp (k + 6) spec_StateOk [] fu 9 (k + 6) (qic 0 z1 l z2 m z3 t z4 b r)) (some [.bool false])
  | 0, i, hi, hn => by omega
  | n + 1, i, hi, hn => by
    rw [qfp]
    by_cases h : i < m.length
    · rw [qcz h 0, qcz (l := t) (by omega : i < t.length) 0]
      have e := qgl k hk fu r z1 z2 z3 z4 l m t b hm ht n (i + 1) (by omega) (by omega)
      by_cases h1 : inR (m.getD i 0) 0 10000000 = true
      · have h2 := qez.1 h1
        simp (disch := omega) only [qah, nth0, nth1, nth2, nth3, bit, qb3, qb4, qcf, qck, qcl, qcm, qcn, qco, qcp, qcq, qb5, qb6, qb7, qb8, qb9, qca, qcb, qcc, qcd, qce, qcg, qch, qci, qcj, qix, qiw, qiy, qg8, qhg, qhh, qe0, qai, qiq, nI, qcw, qcu, Bool.not_true, Bool.not_false, Bool.and_true, Bool.true_and, Bool.and_false, Bool.false_and, Bool.or_true, Bool.true_or, Bool.or_false, Bool.false_or, beq_self_eq_true, dTT, dFF, dT, dF, bigI, big0, qg7, qi9, qja, List.length_set, List.length_replicate, Int.toNat_natCast, qb1, qb2, imax, imin, qbx, qgu, e, h1, qcv, qct]
      · have h1 : inR (m.getD i 0) 0 10000000 = false := by simpa using h1
        simp (disch := omega) only [qah, nth0, nth1, nth2, nth3, bit, qb3, qb4, qcf, qck, qcl, qcm, qcn, qco, qcp, qcq, qb5, qb6, qb7, qb8, qb9, qca, qcb, qcc, qcd, qce, qcg, qch, qci, qcj, qix, qiw, qiy, qg8, qhg, qhh, qe0, qai, qiq, nI, qcw, qcu, Bool.not_true, Bool.not_false, Bool.and_true, Bool.true_and, Bool.and_false, Bool.false_and, Bool.or_true, Bool.true_or, Bool.or_false, Bool.false_or, beq_self_eq_true, dTT, dFF, dT, dF, bigI, big0, qg7, qi9, qja, List.length_set, List.length_replicate, Int.toNat_natCast, qb1, qb2, imax, imin, qbx, qgu, h1]
    · rw [List.drop_of_length_le (by omega), List.drop_of_length_le (by omega)]
      simp (disch := omega) only [qah, nth0, nth1, nth2, nth3, bit, qb3, qb4, qcf, qck, qcl, qcm, qcn, qco, qcp, qcq, qb5, qb6, qb7, qb8, qb9, qca, qcb, qcc, qcd, qce, qcg, qch, qci, qcj, qix, qiw, qiy, qg8, qhg, qhh, qe0, qai, qiq, nI, qcw, qcu, Bool.not_true, Bool.not_false, Bool.and_true, Bool.true_and, Bool.and_false, Bool.false_and, Bool.or_true, Bool.true_or, Bool.or_false, Bool.false_or, beq_self_eq_true, dTT, dFF, dT, dF, bigI, big0, qg7, qi9, qja, List.length_set, List.length_replicate, Int.toNat_natCast, qb1, qb2, imax, imin, qgu]
theorem qbv (k : Nat) (hk : 2000000 ≤ k) (a0 : Int) (a1z : Bool) (a1 : List (Int × Int × Int)) (a2z : Bool) (a2 : List Int) (a3z : Bool) (a3 : List Int) (a4z : Bool) (a4 : List Int) (hl : (a1.length : Int) ≤ 1048576) (hb : (a4.length : Int) ≤ 1048576) : go (k + 7) spec_StateOk [(.agg [(.int .i64 (a0)), (.arr false (a1z) (.r3 (a1))), (.arr false (a2z) (.ints .i64 (a2))), (.arr false (a3z) (.ints .i64 (a3))), (.arr false (a4z) (.ints .i64 (a4)))])] = some [.bool (stOk a0 a1 a2 a3 a4)] := by
  rw [qeg]
  simp (disch := omega) only [qah, nth0, nth1, nth2, nth3, bit, qb3, qb4, qcf, qck, qcl, qcm, qcn, qco, qcp, qcq, qb5, qb6, qb7, qb8, qb9, qca, qcb, qcc, qcd, qce, qcg, qch, qci, qcj, qix, qiw, qiy, qg8, qhg, qhh, qe0, qai, qiq, nI, qcw, qcu, Bool.not_true, Bool.not_false, Bool.and_true, Bool.true_and, Bool.and_false, Bool.false_and, Bool.or_true, Bool.true_or, Bool.or_false, Bool.false_or, beq_self_eq_true, dTT, dFF, dT, dF, bigI, big0, qg7, qi9, qja, List.length_set, List.length_replicate, Int.toNat_natCast, qb1, qb2, imax, imin, qbr]
  unfold stOk
  cases qaf a0 a1
  · rfl
  by_cases h1 : a2.length = a1.length
  case neg => simp (disch := omega) only [qah, nth0, nth1, nth2, nth3, bit, qb3, qb4, qcf, qck, qcl, qcm, qcn, qco, qcp, qcq, qb5, qb6, qb7, qb8, qb9, qca, qcb, qcc, qcd, qce, qcg, qch, qci, qcj, qix, qiw, qiy, qg8, qhg, qhh, qe0, qai, qiq, nI, qcw, qcu, Bool.not_true, Bool.not_false, Bool.and_true, Bool.true_and, Bool.and_false, Bool.false_and, Bool.or_true, Bool.true_or, Bool.or_false, Bool.false_or, beq_self_eq_true, dTT, dFF, dT, dF, bigI, big0, qg7, qi9, qja, List.length_set, List.length_replicate, Int.toNat_natCast, qb1, qb2, imax, imin]
  by_cases h2 : a3.length = a1.length
  case neg => simp (disch := omega) only [qah, nth0, nth1, nth2, nth3, bit, qb3, qb4, qcf, qck, qcl, qcm, qcn, qco, qcp, qcq, qb5, qb6, qb7, qb8, qb9, qca, qcb, qcc, qcd, qce, qcg, qch, qci, qcj, qix, qiw, qiy, qg8, qhg, qhh, qe0, qai, qiq, nI, qcw, qcu, Bool.not_true, Bool.not_false, Bool.and_true, Bool.true_and, Bool.and_false, Bool.false_and, Bool.or_true, Bool.true_or, Bool.or_false, Bool.false_or, beq_self_eq_true, dTT, dFF, dT, dF, bigI, big0, qg7, qi9, qja, List.length_set, List.length_replicate, Int.toNat_natCast, qb1, qb2, imax, imin]
  by_cases h3 : (a4.length : Int) = a0
  case neg => simp (disch := omega) only [qah, nth0, nth1, nth2, nth3, bit, qb3, qb4, qcf, qck, qcl, qcm, qcn, qco, qcp, qcq, qb5, qb6, qb7, qb8, qb9, qca, qcb, qcc, qcd, qce, qcg, qch, qci, qcj, qix, qiw, qiy, qg8, qhg, qhh, qe0, qai, qiq, nI, qcw, qcu, Bool.not_true, Bool.not_false, Bool.and_true, Bool.true_and, Bool.and_false, Bool.false_and, Bool.or_true, Bool.true_or, Bool.or_false, Bool.false_or, beq_self_eq_true, dTT, dFF, dT, dF, bigI, big0, qg7, qi9, qja, List.length_set, List.length_replicate, Int.toNat_natCast, qb1, qb2, imax, imin]
  simp (disch := omega) only [qah, nth0, nth1, nth2, nth3, bit, qb3, qb4, qcf, qck, qcl, qcm, qcn, qco, qcp, qcq, qb5, qb6, qb7, qb8, qb9, qca, qcb, qcc, qcd, qce, qcg, qch, qci, qcj, qix, qiw, qiy, qg8, qhg, qhh, qe0, qai, qiq, nI, qcw, qcu, Bool.not_true, Bool.not_false, Bool.and_true, Bool.true_and, Bool.and_false, Bool.false_and, Bool.or_true, Bool.true_or, Bool.or_false, Bool.false_or, beq_self_eq_true, dTT, dFF, dT, dF, bigI, big0, qg7, qi9, qja, List.length_set, List.length_replicate, Int.toNat_natCast, qb1, qb2, imax, imin]
  refine Eq.trans (qgl k hk [] a0 a1z a2z a3z a4z a1 a2 a3 a4 (by omega) (by omega) _ 0 (by omega) (by omega)) ?_
  simp only [List.drop_zero]
  cases h4 : qgu a2 a3
  · rfl
  · have hx := (qgw a2 a3 (by omega) h4).1
    have e := qgm k hk [] a0 a1z a2z a3z a4z a1 a2 a3 a4 (by omega) hb hx (k + 6) 0 (by omega) (by omega)
    simp only [List.drop_zero] at e
    simp only [qcw, Bool.true_and, dT (h1), dT (h2), dT (h3), decide_true]
    exact e
theorem qaz (k : Nat) (hk : 2000000 ≤ k) (a : Int) : go (k + 2) impl_isBed [(.int .i64 (a))] = some [.bool (inR a 0 1000000)] := by
  rw [qdh]; simp (disch := omega) only [qah, nth0, nth1, nth2, nth3, bit, qb3, qb4, qcf, qck, qcl, qcm, qcn, qco, qcp, qcq, qb5, qb6, qb7, qb8, qb9, qca, qcb, qcc, qcd, qce, qcg, qch, qci, qcj, qix, qiw, qiy, qg8, qhg, qhh, qe0, qai, qiq, nI, qcw, qcu, Bool.not_true, Bool.not_false, Bool.and_true, Bool.true_and, Bool.and_false, Bool.false_and, Bool.or_true, Bool.true_or, Bool.or_false, Bool.false_or, beq_self_eq_true, dTT, dFF, dT, dF, bigI, big0, qg7, qi9, qja, List.length_set, List.length_replicate, Int.toNat_natCast, qb1, qb2, imax, imin, qa3]
theorem qay (k : Nat) (hk : 2000000 ≤ k) (a : Int) : go (k + 3) impl_State_hasCells_1 [(.int .i64 (a))] = some [.bool (!inR a 0 1000000)] := by
  rw [qdd]; simp (disch := omega) only [qah, nth0, nth1, nth2, nth3, bit, qb3, qb4, qcf, qck, qcl, qcm, qcn, qco, qcp, qcq, qb5, qb6, qb7, qb8, qb9, qca, qcb, qcc, qcd, qce, qcg, qch, qci, qcj, qix, qiw, qiy, qg8, qhg, qhh, qe0, qai, qiq, nI, qcw, qcu, Bool.not_true, Bool.not_false, Bool.and_true, Bool.true_and, Bool.and_false, Bool.false_and, Bool.or_true, Bool.true_or, Bool.or_false, Bool.false_or, beq_self_eq_true, dTT, dFF, dT, dF, bigI, big0, qg7, qi9, qja, List.length_set, List.length_replicate, Int.toNat_natCast, qb1, qb2, imax, imin, qaz]
theorem qf8 (k : Nat) (hk : 2000000 ≤ k) (fu : List (Nat × Nat)) (z : Bool) (l : List Int) (hl : (l.length : Int) ≤ 1048576) : ∀ (n i : Nat), i ≤ l.length → l.length - i < n →
    ∃ j : Int, lp (k + 3) slices_IndexFunc_int_int [] fu 2 (n) (qh6 (l.length : Int) (i : Int) z l) = some [.int .i64 j] ∧ decide (0 ≤ j) = !qag (l.drop i)
  | 0, i, hi, hn => by omega
  | n + 1, i, hi, hn => by
    rw [qfk]
    by_cases h : i < l.length
    · rw [qcz h 0]
      obtain ⟨j, e1, e2⟩ := qf8 k hk fu z l hl n (i + 1) (by omega) (by omega)
      simp (disch := omega) only [qah, nth0, nth1, nth2, nth3, bit, qb3, qb4, qcf, qck, qcl, qcm, qcn, qco, qcp, qcq, qb5, qb6, qb7, qb8, qb9, qca, qcb, qcc, qcd, qce, qcg, qch, qci, qcj, qix, qiw, qiy, qg8, qhg, qhh, qe0, qai, qiq, nI, qcw, qcu, Bool.not_true, Bool.not_false, Bool.and_true, Bool.true_and, Bool.and_false, Bool.false_and, Bool.or_true, Bool.true_or, Bool.or_false, Bool.false_or, beq_self_eq_true, dTT, dFF, dT, dF, bigI, big0, qg7, qi9, qja, List.length_set, List.length_replicate, Int.toNat_natCast, qb1, qb2, imax, imin, qay, qag, e1]
      cases inR (l.getD i 0) 0 1000000
      · exact ⟨i, rfl, by rw [dT (by omega)]; rfl⟩
      · exact ⟨j, rfl, by rw [e2]; rfl⟩
    · rw [List.drop_of_length_le (by omega)]
      simp (disch := omega) only [qah, nth0, nth1, nth2, nth3, bit, qb3, qb4, qcf, qck, qcl, qcm, qcn, qco, qcp, qcq, qb5, qb6, qb7, qb8, qb9, qca, qcb, qcc, qcd, qce, qcg, qch, qci, qcj, qix, qiw, qiy, qg8, qhg, qhh, qe0, qai, qiq, nI, qcw, qcu, Bool.not_true, Bool.not_false, Bool.and_true, Bool.true_and, Bool.and_false, Bool.false_and, Bool.or_true, Bool.true_or, Bool.or_false, Bool.false_or, beq_self_eq_true, dTT, dFF, dT, dF, bigI, big0, qg7, qi9, qja, List.length_set, List.length_replicate, Int.toNat_natCast, qb1, qb2, imax, imin, qag]
      exact ⟨-1, rfl, rfl⟩
theorem qak (k : Nat) (hk : 2000000 ≤ k) (z : Bool) (l : List Int) (hl : (l.length : Int) ≤ 1048576) : go (k + 5) slices_ContainsFunc_int_int [.arr false z (.ints .i64 l), .fn impl_State_hasCells_1 []] = some [.bool (!qag l)] := by
  rw [qd6, qd9]
  obtain ⟨j, e1, e2⟩ := qf8 k hk [] z l hl (k + 3) 0 (by omega) (by omega)
  have e1' := e1
  simp only [nI] at *
  rw [show ((0 : Nat) : Int) = 0 from rfl] at e1'
  rw [e1']
  simp (disch := omega) only [qah, nth0, nth1, nth2, nth3, bit, qb3, qb4, qcf, qck, qcl, qcm, qcn, qco, qcp, qcq, qb5, qb6, qb7, qb8, qb9, qca, qcb, qcc, qcd, qce, qcg, qch, qci, qcj, qix, qiw, qiy, qg8, qhg, qhh, qe0, qai, qiq, nI, qcw, qcu, Bool.not_true, Bool.not_false, Bool.and_true, Bool.true_and, Bool.and_false, Bool.false_and, Bool.or_true, Bool.true_or, Bool.or_false, Bool.false_or, beq_self_eq_true, dTT, dFF, dT, dF, bigI, big0, qg7, qi9, qja, List.length_set, List.length_replicate, Int.toNat_natCast, qb1, qb2, imax, imin]
  rw [show decide ((0 : Int) ≤ j) = !qag l from e2]
theorem qf2 (k : Nat) (hk : 2000000 ≤ k) (fu : List (Nat × Nat)) (r : Int) (z1 z2 z3 z4 : Bool) (l : List Cell) (m t b : List Int) (hm : (m.length : Int) ≤ 1048576) (ht : t.length = m.length) (s : List D)
    (hs : qgu m t = true → go (k + 5) impl_sum [.arr false z2 (.ints .i64 m)] = some [.int .i64 (isum m)]) (P : Bool) : ∀ (n i : Nat), i ≤ m.length → m.length - i < n → (qgu (m.drop i) (t.drop i) = true → qgu m t = true) →
    lp (k + 5) impl_State_hasCells [] fu 5 (n) (qht (m.length : Int) (i : Int) z1 l z2 m z3 t z4 b r) = some [.bool (qgu (m.drop i) (t.drop i) && decide (isum m ≤ 10000000))]
  | 0, i, hi, hn, hq => by omega
  | n + 1, i, hi, hn, hq => by
    rw [qe7]
    by_cases h : i < m.length
    · rw [qcz h 0, qcz (l := t) (by omega : i < t.length) 0] at hq ⊢
      by_cases h1 : inR (m.getD i 0) 0 10000000 = true
      · have h2 := qez.1 h1
        by_cases h3 : inR (t.getD i 0) 0 (1000 * m.getD i 0) = true
        · have e := qf2 k hk fu r z1 z2 z3 z4 l m t b hm ht s hs P n (i + 1) (by omega) (by omega) (fun hh => hq (by simp only [qgu, h1, h3, hh, Bool.and_self]))
          simp (disch := omega) only [qah, nth0, nth1, nth2, nth3, bit, qb3, qb4, qcf, qck, qcl, qcm, qcn, qco, qcp, qcq, qb5, qb6, qb7, qb8, qb9, qca, qcb, qcc, qcd, qce, qcg, qch, qci, qcj, qix, qiw, qiy, qg8, qhg, qhh, qe0, qai, qiq, nI, qcw, qcu, Bool.not_true, Bool.not_false, Bool.and_true, Bool.true_and, Bool.and_false, Bool.false_and, Bool.or_true, Bool.true_or, Bool.or_false, Bool.false_or, beq_self_eq_true, dTT, dFF, dT, dF, bigI, big0, qg7, qi9, qja, List.length_set, List.length_replicate, Int.toNat_natCast, qb1, qb2, imax, imin, qa3, qgu, e, h1, h3]
        · have h3 : inR (t.getD i 0) 0 (1000 * m.getD i 0) = false := by simpa using h3
          simp (disch := omega) only [qah, nth0, nth1, nth2, nth3, bit, qb3, qb4, qcf, qck, qcl, qcm, qcn, qco, qcp, qcq, qb5, qb6, qb7, qb8, qb9, qca, qcb, qcc, qcd, qce, qcg, qch, qci, qcj, qix, qiw, qiy, qg8, qhg, qhh, qe0, qai, qiq, nI, qcw, qcu, Bool.not_true, Bool.not_false, Bool.and_true, Bool.true_and, Bool.and_false, Bool.false_and, Bool.or_true, Bool.true_or, Bool.or_false, Bool.false_or, beq_self_eq_true, dTT, dFF, dT, dF, bigI, big0, qg7, qi9, qja, List.length_set, List.length_replicate, Int.toNat_natCast, qb1, qb2, imax, imin, qa3, qgu, h1, h3]
      · have h1 : inR (m.getD i 0) 0 10000000 = false := by simpa using h1
        simp (disch := omega) only [qah, nth0, nth1, nth2, nth3, bit, qb3, qb4, qcf, qck, qcl, qcm, qcn, qco, qcp, qcq, qb5, qb6, qb7, qb8, qb9, qca, qcb, qcc, qcd, qce, qcg, qch, qci, qcj, qix, qiw, qiy, qg8, qhg, qhh, qe0, qai, qiq, nI, qcw, qcu, Bool.not_true, Bool.not_false, Bool.and_true, Bool.true_and, Bool.and_false, Bool.false_and, Bool.or_true, Bool.true_or, Bool.or_false, Bool.false_or, beq_self_eq_true, dTT, dFF, dT, dF, bigI, big0, qg7, qi9, qja, List.length_set, List.length_replicate, Int.toNat_natCast, qb1, qb2, imax, imin, qa3, qgu, h1]
    · rw [List.drop_of_length_le (by omega), List.drop_of_length_le (by omega)] at hq ⊢
      have e := hs (hq rfl)
      simp (disch := omega) only [qah, nth0, nth1, nth2, nth3, bit, qb3, qb4, qcf, qck, qcl, qcm, qcn, qco, qcp, qcq, qb5, qb6, qb7, qb8, qb9, qca, qcb, qcc, qcd, qce, qcg, qch, qci, qcj, qix, qiw, qiy, qg8, qhg, qhh, qe0, qai, qiq, nI, qcw, qcu, Bool.not_true, Bool.not_false, Bool.and_true, Bool.true_and, Bool.and_false, Bool.false_and, Bool.or_true, Bool.true_or, Bool.or_false, Bool.false_or, beq_self_eq_true, dTT, dFF, dT, dF, bigI, big0, qg7, qi9, qja, List.length_set, List.length_replicate, Int.toNat_natCast, qb1, qb2, imax, imin, qgu, e]
theorem qax (k : Nat) (hk : 2000000 ≤ k) (a0 : Int) (a1z : Bool) (a1 : List (Int × Int × Int)) (a2z : Bool) (a2 : List Int) (a3z : Bool) (a3 : List Int) (a4z : Bool) (a4 : List Int) (hl : (a1.length : Int) ≤ 1048576) (hb : (a4.length : Int) ≤ 1048576) : go (k + 6) impl_State_hasCells [(.agg [(.int .i64 (a0)), (.arr false (a1z) (.r3 (a1))), (.arr false (a2z) (.ints .i64 (a2))), (.arr false (a3z) (.ints .i64 (a3))), (.arr false (a4z) (.ints .i64 (a4)))])] = some [.bool (decide (a2.length = a1.length) && (decide (a3.length = a1.length) && (decide ((a4.length : Int) = a0) && (qgu a2 a3 && (qag a4 && decide (isum a2 ≤ 10000000))))))] := by
  rw [qdc]
  by_cases h1 : a2.length = a1.length
  case neg => simp (disch := omega) only [qah, nth0, nth1, nth2, nth3, bit, qb3, qb4, qcf, qck, qcl, qcm, qcn, qco, qcp, qcq, qb5, qb6, qb7, qb8, qb9, qca, qcb, qcc, qcd, qce, qcg, qch, qci, qcj, qix, qiw, qiy, qg8, qhg, qhh, qe0, qai, qiq, nI, qcw, qcu, Bool.not_true, Bool.not_false, Bool.and_true, Bool.true_and, Bool.and_false, Bool.false_and, Bool.or_true, Bool.true_or, Bool.or_false, Bool.false_or, beq_self_eq_true, dTT, dFF, dT, dF, bigI, big0, qg7, qi9, qja, List.length_set, List.length_replicate, Int.toNat_natCast, qb1, qb2, imax, imin]
  by_cases h2 : a3.length = a1.length
  case neg => simp (disch := omega) only [qah, nth0, nth1, nth2, nth3, bit, qb3, qb4, qcf, qck, qcl, qcm, qcn, qco, qcp, qcq, qb5, qb6, qb7, qb8, qb9, qca, qcb, qcc, qcd, qce, qcg, qch, qci, qcj, qix, qiw, qiy, qg8, qhg, qhh, qe0, qai, qiq, nI, qcw, qcu, Bool.not_true, Bool.not_false, Bool.and_true, Bool.true_and, Bool.and_false, Bool.false_and, Bool.or_true, Bool.true_or, Bool.or_false, Bool.false_or, beq_self_eq_true, dTT, dFF, dT, dF, bigI, big0, qg7, qi9, qja, List.length_set, List.length_replicate, Int.toNat_natCast, qb1, qb2, imax, imin]
  by_cases h3 : (a4.length : Int) = a0
  case neg => simp (disch := omega) only [qah, nth0, nth1, nth2, nth3, bit, qb3, qb4, qcf, qck, qcl, qcm, qcn, qco, qcp, qcq, qb5, qb6, qb7, qb8, qb9, qca, qcb, qcc, qcd, qce, qcg, qch, qci, qcj, qix, qiw, qiy, qg8, qhg, qhh, qe0, qai, qiq, nI, qcw, qcu, Bool.not_true, Bool.not_false, Bool.and_true, Bool.true_and, Bool.and_false, Bool.false_and, Bool.or_true, Bool.true_or, Bool.or_false, Bool.false_or, beq_self_eq_true, dTT, dFF, dT, dF, bigI, big0, qg7, qi9, qja, List.length_set, List.length_replicate, Int.toNat_natCast, qb1, qb2, imax, imin]
  simp (disch := omega) only [qah, nth0, nth1, nth2, nth3, bit, qb3, qb4, qcf, qck, qcl, qcm, qcn, qco, qcp, qcq, qb5, qb6, qb7, qb8, qb9, qca, qcb, qcc, qcd, qce, qcg, qch, qci, qcj, qix, qiw, qiy, qg8, qhg, qhh, qe0, qai, qiq, nI, qcw, qcu, Bool.not_true, Bool.not_false, Bool.and_true, Bool.true_and, Bool.and_false, Bool.false_and, Bool.or_true, Bool.true_or, Bool.or_false, Bool.false_or, beq_self_eq_true, dTT, dFF, dT, dF, bigI, big0, qg7, qi9, qja, List.length_set, List.length_replicate, Int.toNat_natCast, qb1, qb2, imax, imin, qak]
  cases h5 : qag a4
  · cases qgu a2 a3 <;> rfl
  have e := qf2 k hk [] a0 a1z a2z a3z a4z a1 a2 a3 a4 (by omega) (by omega) [] (fun hm => by
    have hx := (qgw a2 a3 (by omega) hm).1
    exact qa1 _ (by omega) _ _ (by omega) (fun x hh => by have := hx x hh; omega)) true (k + 5) 0 (by omega) (by omega) (fun h => h)
  simp only [List.drop_zero] at e
  simp only [Bool.not_true, qcu, Bool.true_and]
  exact e
theorem qat (k : Nat) (hk : 2000000 ≤ k) (a0 : Int) (a1z : Bool) (a1 : List (Int × Int × Int)) (a2z : Bool) (a2 : List Int) (a3z : Bool) (a3 : List Int) (a4z : Bool) (a4 : List Int) (hl : (a1.length : Int) ≤ 1048576) (hb : (a4.length : Int) ≤ 1048576) : go (k + 8) impl_StateOk [(.agg [(.int .i64 (a0)), (.arr false (a1z) (.r3 (a1))), (.arr false (a2z) (.ints .i64 (a2))), (.arr false (a3z) (.ints .i64 (a3))), (.arr false (a4z) (.ints .i64 (a4)))])] = some [.bool (stOk a0 a1 a2 a3 a4)] := by
  rw [qdb]
  simp (disch := omega) only [qah, nth0, nth1, nth2, nth3, bit, qb3, qb4, qcf, qck, qcl, qcm, qcn, qco, qcp, qcq, qb5, qb6, qb7, qb8, qb9, qca, qcb, qcc, qcd, qce, qcg, qch, qci, qcj, qix, qiw, qiy, qg8, qhg, qhh, qe0, qai, qiq, nI, qcw, qcu, Bool.not_true, Bool.not_false, Bool.and_true, Bool.true_and, Bool.and_false, Bool.false_and, Bool.or_true, Bool.true_or, Bool.or_false, Bool.false_or, beq_self_eq_true, dTT, dFF, dT, dF, bigI, big0, qg7, qi9, qja, List.length_set, List.length_replicate, Int.toNat_natCast, qb1, qb2, imax, imin, qap, qax]
  unfold stOk
  cases qaf a0 a1 <;> rfl
end Go.Proofs.Ytcaapedadpnjoaa
end
section
namespace Go.Proofs.Ytcaapedadpnjoaa
open Go.Ev
theorem qc0 {α : Type} {l l' : List α} {i : Nat} (h : i < l.length) (h' : i < l'.length) (d : α) : l.drop i = l'.drop i ↔ l.getD i d = l'.getD i d ∧ l.drop (i + 1) = l'.drop (i + 1) := by
  rw [qcz h d, qcz h' d]; simp
theorem qfu {α : Type} {l l' : List α} (h : ¬ l.length = l'.length) : ¬ l = l' := fun e => h (by rw [e])
theorem qcr (x y : Cell) : (decide (x.1 = y.1) && (decide (x.2.1 = y.2.1) && decide (x.2.2 = y.2.2))) = decide (x = y) := by
  obtain ⟨a, b, c⟩ := x; obtain ⟨a', b', c'⟩ := y
  rw [Bool.eq_iff_iff]; simp
theorem qgi (k : Nat) (hk : 2000000 ≤ k) (fu : List (Nat × Nat)) (z z' : Bool) (l l' : List Cell) (hl : (l.length : Int) ≤ 1048576) (he : l'.length = l.length) : ∀ (n i : Nat), i ≤ l.length → l.length - i < n →
    lp k slices_Equal_impl_Id_impl_Id [] fu 4 (n) (qh4 (l.length : Int) (i : Int) z l z' l') = some [.bool (decide (l.drop i = l'.drop i))]
  | 0, i, hi, hn => by omega
  | n + 1, i, hi, hn => by
    rw [qfi]
    by_cases h : i < l.length
    · have e := qgi k hk fu z z' l l' hl he n (i + 1) (by omega) (by omega)
      by_cases g : l.getD i zz3 = l'.getD i zz3
      · simp (disch := omega) only [qah, nth0, nth1, nth2, nth3, bit, qb3, qb4, qcf, qck, qcl, qcm, qcn, qco, qcp, qcq, qb5, qb6, qb7, qb8, qb9, qca, qcb, qcc, qcd, qce, qcg, qch, qci, qcj, qix, qiw, qiy, qg8, qhg, qhh, qe0, qai, qiq, nI, qcw, qcu, Bool.not_true, Bool.not_false, Bool.and_true, Bool.true_and, Bool.and_false, Bool.false_and, Bool.or_true, Bool.true_or, Bool.or_false, Bool.false_or, beq_self_eq_true, dTT, dFF, dT, dF, bigI, big0, qg7, qi9, qja, List.length_set, List.length_replicate, Int.toNat_natCast, qb1, qb2, imax, imin, e, g]
        exact congrArg (fun b => some [D.bool b]) (by simp only [qc0 h (by omega : i < l'.length) zz3, g, true_and])
      · simp (disch := omega) only [qah, nth0, nth1, nth2, nth3, bit, qb3, qb4, qcf, qck, qcl, qcm, qcn, qco, qcp, qcq, qb5, qb6, qb7, qb8, qb9, qca, qcb, qcc, qcd, qce, qcg, qch, qci, qcj, qix, qiw, qiy, qg8, qhg, qhh, qe0, qai, qiq, nI, qcw, qcu, Bool.not_true, Bool.not_false, Bool.and_true, Bool.true_and, Bool.and_false, Bool.false_and, Bool.or_true, Bool.true_or, Bool.or_false, Bool.false_or, beq_self_eq_true, dTT, dFF, dT, dF, bigI, big0, qg7, qi9, qja, List.length_set, List.length_replicate, Int.toNat_natCast, qb1, qb2, imax, imin, e, qcr]
        exact congrArg (fun b => some [D.bool b]) (by rw [dF]; rw [qc0 h (by omega : i < l'.length) zz3]; exact fun hh => g hh.1)
    · simp (disch := omega) only [qah, nth0, nth1, nth2, nth3, bit, qb3, qb4, qcf, qck, qcl, qcm, qcn, qco, qcp, qcq, qb5, qb6, qb7, qb8, qb9, qca, qcb, qcc, qcd, qce, qcg, qch, qci, qcj, qix, qiw, qiy, qg8, qhg, qhh, qe0, qai, qiq, nI, qcw, qcu, Bool.not_true, Bool.not_false, Bool.and_true, Bool.true_and, Bool.and_false, Bool.false_and, Bool.or_true, Bool.true_or, Bool.or_false, Bool.false_or, beq_self_eq_true, dTT, dFF, dT, dF, bigI, big0, qg7, qi9, qja, List.length_set, List.length_replicate, Int.toNat_natCast, qb1, qb2, imax, imin]
      rw [List.drop_of_length_le (by omega), List.drop_of_length_le (by omega)]; rfl
theorem qbo (k : Nat) (hk : 2000000 ≤ k) (az : Bool) (a : List (Int × Int × Int)) (bz : Bool) (b : List (Int × Int × Int)) (hl : (a.length : Int) ≤ 1048576) : go (k + 1) slices_Equal_impl_Id_impl_Id [(.arr false (az) (.r3 (a))), (.arr false (bz) (.r3 (b)))] = some [.bool (decide (a = b))] := by
  rw [qd7]
  by_cases h : a.length = b.length
  · simp (disch := omega) only [qah, nth0, nth1, nth2, nth3, bit, qb3, qb4, qcf, qck, qcl, qcm, qcn, qco, qcp, qcq, qb5, qb6, qb7, qb8, qb9, qca, qcb, qcc, qcd, qce, qcg, qch, qci, qcj, qix, qiw, qiy, qg8, qhg, qhh, qe0, qai, qiq, nI, qcw, qcu, Bool.not_true, Bool.not_false, Bool.and_true, Bool.true_and, Bool.and_false, Bool.false_and, Bool.or_true, Bool.true_or, Bool.or_false, Bool.false_or, beq_self_eq_true, dTT, dFF, dT, dF, bigI, big0, qg7, qi9, qja, List.length_set, List.length_replicate, Int.toNat_natCast, qb1, qb2, imax, imin]
    have e := qgi k hk [] az bz a b hl (by omega) (k + 0) 0 (by omega) (by omega)
    simp only [List.drop_zero] at e; exact e
  · simp (disch := omega) only [qah, nth0, nth1, nth2, nth3, bit, qb3, qb4, qcf, qck, qcl, qcm, qcn, qco, qcp, qcq, qb5, qb6, qb7, qb8, qb9, qca, qcb, qcc, qcd, qce, qcg, qch, qci, qcj, qix, qiw, qiy, qg8, qhg, qhh, qe0, qai, qiq, nI, qcw, qcu, Bool.not_true, Bool.not_false, Bool.and_true, Bool.true_and, Bool.and_false, Bool.false_and, Bool.or_true, Bool.true_or, Bool.or_false, Bool.false_or, beq_self_eq_true, dTT, dFF, dT, dF, bigI, big0, qg7, qi9, qja, List.length_set, List.length_replicate, Int.toNat_natCast, qb1, qb2, imax, imin]
    rw [dF (qfu h)]
def qig (r r' : Int) (l l' : List Cell) : Bool := decide (r = r') && decide (l = l')
theorem qar (k : Nat) (hk : 2000000 ≤ k) (a0 : Int) (a1z : Bool) (a1 : List (Int × Int × Int)) (b0 : Int) (b1z : Bool) (b1 : List (Int × Int × Int)) (hl : (a1.length : Int) ≤ 1048576) : go (k + 2) impl_SameMesh [(.agg [(.int .i64 (a0)), (.arr false (a1z) (.r3 (a1)))]), (.agg [(.int .i64 (b0)), (.arr false (b1z) (.r3 (b1)))])] = some [.bool (qig a0 b0 a1 b1)] := by
  rw [qc9]
  simp (disch := omega) only [qah, nth0, nth1, nth2, nth3, bit, qb3, qb4, qcf, qck, qcl, qcm, qcn, qco, qcp, qcq, qb5, qb6, qb7, qb8, qb9, qca, qcb, qcc, qcd, qce, qcg, qch, qci, qcj, qix, qiw, qiy, qg8, qhg, qhh, qe0, qai, qiq, nI, qcw, qcu, Bool.not_true, Bool.not_false, Bool.and_true, Bool.true_and, Bool.and_false, Bool.false_and, Bool.or_true, Bool.true_or, Bool.or_false, Bool.false_or, beq_self_eq_true, dTT, dFF, dT, dF, bigI, big0, qg7, qi9, qja, List.length_set, List.length_replicate, Int.toNat_natCast, qb1, qb2, imax, imin, qbo]
  unfold qig
  cases decide (a0 = b0) <;> rfl
theorem qgk (k : Nat) (hk : 2000000 ≤ k) (fu : List (Nat × Nat)) (z z' : Bool) (r r' : Int) (l l' : List Cell) (hl : (l.length : Int) ≤ 1048576) (he : l'.length = l.length) : ∀ (n i : Nat), i ≤ l.length → l.length - i < n →
    lp k spec_SameMesh [] fu 4 (n) (qia (i : Int) z l r z' l' r') = some [.bool (decide (l.drop i = l'.drop i))]
  | 0, i, hi, hn => by omega
  | n + 1, i, hi, hn => by
    rw [qfo]
    by_cases h : i < l.length
    · have e := qgk k hk fu z z' r r' l l' hl he n (i + 1) (by omega) (by omega)
      by_cases g : l.getD i zz3 = l'.getD i zz3
      · simp (disch := omega) only [qah, nth0, nth1, nth2, nth3, bit, qb3, qb4, qcf, qck, qcl, qcm, qcn, qco, qcp, qcq, qb5, qb6, qb7, qb8, qb9, qca, qcb, qcc, qcd, qce, qcg, qch, qci, qcj, qix, qiw, qiy, qg8, qhg, qhh, qe0, qai, qiq, nI, qcw, qcu, Bool.not_true, Bool.not_false, Bool.and_true, Bool.true_and, Bool.and_false, Bool.false_and, Bool.or_true, Bool.true_or, Bool.or_false, Bool.false_or, beq_self_eq_true, dTT, dFF, dT, dF, bigI, big0, qg7, qi9, qja, List.length_set, List.length_replicate, Int.toNat_natCast, qb1, qb2, imax, imin, e, g]
        exact congrArg (fun b => some [D.bool b]) (by simp only [qc0 h (by omega : i < l'.length) zz3, g, true_and])
      · simp (disch := omega) only [qah, nth0, nth1, nth2, nth3, bit, qb3, qb4, qcf, qck, qcl, qcm, qcn, qco, qcp, qcq, qb5, qb6, qb7, qb8, qb9, qca, qcb, qcc, qcd, qce, qcg, qch, qci, qcj, qix, qiw, qiy, qg8, qhg, qhh, qe0, qai, qiq, nI, qcw, qcu, Bool.not_true, Bool.not_false, Bool.and_true, Bool.true_and, Bool.and_false, Bool.false_and, Bool.or_true, Bool.true_or, Bool.or_false, Bool.false_or, beq_self_eq_true, dTT, dFF, dT, dF, bigI, big0, qg7, qi9, qja, List.length_set, List.length_replicate, Int.toNat_natCast, qb1, qb2, imax, imin, e, qcr]
        exact congrArg (fun b => some [D.bool b]) (by rw [dF]; rw [qc0 h (by omega : i < l'.length) zz3]; exact fun hh => g hh.1)
    · simp (disch := omega) only [qah, nth0, nth1, nth2, nth3, bit, qb3, qb4, qcf, qck, qcl, qcm, qcn, qco, qcp, qcq, qb5, qb6, qb7, qb8, qb9, qca, qcb, qcc, qcd, qce, qcg, qch, qci, qcj, qix, qiw, qiy, qg8, qhg, qhh, qe0, qai, qiq, nI, qcw, qcu, Bool.not_true, Bool.not_false, Bool.and_true, Bool.true_and, Bool.and_false, Bool.false_and, Bool.or_true, Bool.true_or, Bool.or_false, Bool.false_or, beq_self_eq_true, dTT, dFF, dT, dF, bigI, big0, qg7, qi9, qja, List.length_set, List.length_replicate, Int.toNat_natCast, qb1, qb2, imax, imin]
      rw [List.drop_of_length_le (by omega), List.drop_of_length_le (by omega)]; rfl
theorem qbt (k : Nat) (hk : 2000000 ≤ k) (a0 : Int) (a1z : Bool) (a1 : List (Int × Int × Int)) (b0 : Int) (b1z : Bool) (b1 : List (Int × Int × Int)) (hl : (a1.length : Int) ≤ 1048576) : go (k + 1) spec_SameMesh [(.agg [(.int .i64 (a0)), (.arr false (a1z) (.r3 (a1)))]), (.agg [(.int .i64 (b0)), (.arr false (b1z) (.r3 (b1)))])] = some [.bool (qig a0 b0 a1 b1)] := by
  rw [qee]
  unfold qig
  by_cases h0 : a0 = b0
  case neg => simp (disch := omega) only [qah, nth0, nth1, nth2, nth3, bit, qb3, qb4, qcf, qck, qcl, qcm, qcn, qco, qcp, qcq, qb5, qb6, qb7, qb8, qb9, qca, qcb, qcc, qcd, qce, qcg, qch, qci, qcj, qix, qiw, qiy, qg8, qhg, qhh, qe0, qai, qiq, nI, qcw, qcu, Bool.not_true, Bool.not_false, Bool.and_true, Bool.true_and, Bool.and_false, Bool.false_and, Bool.or_true, Bool.true_or, Bool.or_false, Bool.false_or, beq_self_eq_true, dTT, dFF, dT, dF, bigI, big0, qg7, qi9, qja, List.length_set, List.length_replicate, Int.toNat_natCast, qb1, qb2, imax, imin]
  by_cases h : a1.length = b1.length
  · simp (disch := omega) only [qah, nth0, nth1, nth2, nth3, bit, qb3, qb4, qcf, qck, qcl, qcm, qcn, qco, qcp, qcq, qb5, qb6, qb7, qb8, qb9, qca, qcb, qcc, qcd, qce, qcg, qch, qci, qcj, qix, qiw, qiy, qg8, qhg, qhh, qe0, qai, qiq, nI, qcw, qcu, Bool.not_true, Bool.not_false, Bool.and_true, Bool.true_and, Bool.and_false, Bool.false_and, Bool.or_true, Bool.true_or, Bool.or_false, Bool.false_or, beq_self_eq_true, dTT, dFF, dT, dF, bigI, big0, qg7, qi9, qja, List.length_set, List.length_replicate, Int.toNat_natCast, qb1, qb2, imax, imin]
    have e := qgk k hk [] a1z b1z a0 b0 a1 b1 hl (by omega) (k + 0) 0 (by omega) (by omega)
    simp only [List.drop_zero] at e; exact e
  · simp (disch := omega) only [qah, nth0, nth1, nth2, nth3, bit, qb3, qb4, qcf, qck, qcl, qcm, qcn, qco, qcp, qcq, qb5, qb6, qb7, qb8, qb9, qca, qcb, qcc, qcd, qce, qcg, qch, qci, qcj, qix, qiw, qiy, qg8, qhg, qhh, qe0, qai, qiq, nI, qcw, qcu, Bool.not_true, Bool.not_false, Bool.and_true, Bool.true_and, Bool.and_false, Bool.false_and, Bool.or_true, Bool.true_or, Bool.or_false, Bool.false_or, beq_self_eq_true, dTT, dFF, dT, dF, bigI, big0, qg7, qi9, qja, List.length_set, List.length_replicate, Int.toNat_natCast, qb1, qb2, imax, imin]
    rw [dF (qfu h)]
end Go.Proofs.Ytcaapedadpnjoaa
end
section
namespace Go.Proofs.Ytcaapedadpnjoaa
open Go.Ev
theorem qi7 {l : Int} (h : inR l 0 4 = true) : 1 ≤ qi6 l ∧ qi6 l ≤ 16 := by
  rcases lev h with rfl | rfl | rfl | rfl | rfl <;> decide
theorem qi5 {x : Cell} (h : idOk x.1 x.2.1 x.2.2 = true) : qin x.1 x.2.1 x.2.2 = x.1 * 16 + x.2.2 * qi6 x.2.1 ∧ 0 ≤ x.2.2 * qi6 x.2.1 ∧ 1 ≤ qi6 x.2.1 := by
  have := qey h
  exact ⟨by simp [qin, h], (iw h).1, (qi7 this.2.2.1).1⟩
theorem qgz : ∀ (l : List Cell) (r p : Int), qgx r p l = true → 1 ≤ r ∧ r ≤ 8 ∧ p + l.length ≤ 16 * r ∧ (∀ i, i < l.length → 0 ≤ (l.getD i zz3).1 ∧ (l.getD i zz3).1 < r ∧ idOk (l.getD i zz3).1 (l.getD i zz3).2.1 (l.getD i zz3).2.2 = true) ∧ (l = [] → p = 16 * r)
  | [], r, p, h => by
    simp only [qgx, Bool.and_eq_true, qez, decide_eq_true_eq] at h
    simp; omega
  | x :: l, r, p, h => by
    simp only [qgx, Bool.and_eq_true, decide_eq_true_eq] at h
    obtain ⟨h1, h2, h3⟩ := h
    have w := qi5 h1
    have ih := qgz l r _ h3
    have ds := qey h1
    refine ⟨ih.1, ih.2.1, by simp only [List.length_cons]; omega, fun i hi => ?_, by simp⟩
    cases i with
    | zero => simp only [List.getD_cons_zero]; refine ⟨by omega, by omega, h1⟩
    | succ i => simp only [List.getD_cons_succ]; exact ih.2.2.2.1 i (by simpa using hi)
theorem qg0 {l : List Cell} {r : Int} (h : qgx r 0 l = true) : 1 ≤ l.length ∧ l.length ≤ 128 := by
  have f := qgz l r 0 h
  cases l with
  | nil => have := f.2.2.2.2 rfl; omega
  | cons x l => simp only [List.length_cons] at f ⊢; omega
structure StF (r : Int) (l : List Cell) (m t b : List Int) : Prop where
  mesh : qgx r 0 l = true
  bal : unb l < 0
  ml : m.length = l.length
  tl : t.length = l.length
  bl : (b.length : Int) = r
  mt : qgu m t = true
  bed : qag b = true
  sum : isum m ≤ 10000000
theorem stF {r : Int} {l : List Cell} {m t b : List Int} : stOk r l m t b = true ↔ StF r l m t b := by
  unfold stOk qaf
  simp only [Bool.and_eq_true, decide_eq_true_eq]
  exact ⟨fun h => ⟨h.1.1, h.1.2, h.2.1, h.2.2.1, h.2.2.2.1, h.2.2.2.2.1, h.2.2.2.2.2.1, h.2.2.2.2.2.2⟩, fun h => ⟨⟨h.mesh, h.bal⟩, h.ml, h.tl, h.bl, h.mt, h.bed, h.sum⟩⟩
section
variable {r : Int} {l : List Cell} {m t b : List Int}
theorem StF.len (F : StF r l m t b) : 1 ≤ l.length ∧ l.length ≤ 128 := qg0 F.mesh
theorem StF.lev (F : StF r l m t b) (i : Nat) : inR (l.getD i zz3).2.1 0 4 = true := by
  have := qg1 l r 0 F.mesh i
  simp only [qfv] at this
  rw [qez]; exact this
theorem StF.at (F : StF r l m t b) (i : Nat) : 0 ≤ m.getD i 0 ∧ m.getD i 0 ≤ 10000000 ∧ 0 ≤ t.getD i 0 ∧ t.getD i 0 ≤ 1000 * m.getD i 0 := qgv m t (by rw [F.ml, F.tl]) F.mt i
end
end Go.Proofs.Ytcaapedadpnjoaa
end
section
namespace Go.Proofs.Ytcaapedadpnjoaa
open Go.Ev
theorem qbn (k : Nat) (hk : 2000000 ≤ k) (a : List Int) (hl : (a.length : Int) ≤ 1048576) : go (k + 1) slices_Clone_int_int [.arr false false (.ints .i64 a)] = some [.arr true false (.ints .i64 a)] := by
  rw [qd4]
  simp (disch := omega) only [qah, nth0, nth1, nth2, nth3, bit, qb3, qb4, qcf, qck, qcl, qcm, qcn, qco, qcp, qcq, qb5, qb6, qb7, qb8, qb9, qca, qcb, qcc, qcd, qce, qcg, qch, qci, qcj, qix, qiw, qiy, qg8, qhg, qhh, qe0, qai, qiq, nI, qcw, qcu, Bool.not_true, Bool.not_false, Bool.and_true, Bool.true_and, Bool.and_false, Bool.false_and, Bool.or_true, Bool.true_or, Bool.or_false, Bool.false_or, beq_self_eq_true, dTT, dFF, dT, dF, bigI, big0, qg7, qi9, qja, List.length_set, List.length_replicate, Int.toNat_natCast, qb1, qb2, imax, imin]
end Go.Proofs.Ytcaapedadpnjoaa
end
section
namespace Go.Proofs.Ytcaapedadpnjoaa
open Go.Ev
set_option maxRecDepth 20000
def qim (r : List RC) : Bool := stOk (rcAt r 0).num (rcAt r 1).r3s (rcAt r 2).ints (rcAt r 3).ints (rcAt r 4).ints
def qil (r q : List RC) : Bool := qig (rcAt r 0).num (rcAt q 0).num (rcAt r 1).r3s (rcAt q 1).r3s
def qfy (r : List RC) : Prop := ((rcAt r 1).r3s.length : Int) ≤ 1048576 ∧ ((rcAt r 2).ints.length : Int) ≤ 1048576 ∧ ((rcAt r 3).ints.length : Int) ≤ 1048576 ∧ ((rcAt r 4).ints.length : Int) ≤ 1048576
def askF (l : List (List RC)) : Nat → Nat → Bool
  | 0, i => true
  | m + 1, i => (qim (rrow l i) && qil (rrow l i) (rrow l 0)) && askF l m (i + 1)
def askE (l : List (List RC)) : Bool := inR (l.length : Int) 1 100 && askF l l.length 0
theorem qam (k : Nat) (hk : 2000000 ≤ k) (z : Bool) (l : List (List RC)) (r : List RC) (hl : 0 < l.length) (hr : qfy r) : go (k + 9) impl_EnvelopeOf_1 [.agg [.int .i64 (rcAt r 0).num, .arr false (rcAt r 1).nil (.r3 (rcAt r 1).r3s), .arr false (rcAt r 2).nil (.ints .i64 (rcAt r 2).ints), .arr false (rcAt r 3).nil (.ints .i64 (rcAt r 3).ints), .arr false (rcAt r 4).nil (.ints .i64 (rcAt r 4).ints)], .ptr false [.rows z [.n, .r3, .is, .is, .is] l]] = some [.bool (!(qim r && qil r (rrow l 0)))] := by
  rw [qc4]
  obtain ⟨h1, h2, h3, h4⟩ := hr
  have t0 : Int.toNat 0 = 0 := rfl
  unfold qim qil
  cases g : stOk (rcAt r 0).num (rcAt r 1).r3s (rcAt r 2).ints (rcAt r 3).ints (rcAt r 4).ints
  · simp (disch := omega) only [qah, nth0, nth1, nth2, nth3, bit, qb3, qb4, qcf, qck, qcl, qcm, qcn, qco, qcp, qcq, qb5, qb6, qb7, qb8, qb9, qca, qcb, qcc, qcd, qce, qcg, qch, qci, qcj, qix, qiw, qiy, qg8, qhg, qhh, qe0, qai, qiq, nI, qcw, qcu, Bool.not_true, Bool.not_false, Bool.and_true, Bool.true_and, Bool.and_false, Bool.false_and, Bool.or_true, Bool.true_or, Bool.or_false, Bool.false_or, beq_self_eq_true, dTT, dFF, dT, dF, bigI, big0, qg7, qi9, qja, List.length_set, List.length_replicate, Int.toNat_natCast, qb1, qb2, imax, imin, qat, g]
  · simp (disch := omega) only [qah, nth0, nth1, nth2, nth3, bit, qb3, qb4, qcf, qck, qcl, qcm, qcn, qco, qcp, qcq, qb5, qb6, qb7, qb8, qb9, qca, qcb, qcc, qcd, qce, qcg, qch, qci, qcj, qix, qiw, qiy, qg8, qhg, qhh, qe0, qai, qiq, nI, qcw, qcu, Bool.not_true, Bool.not_false, Bool.and_true, Bool.true_and, Bool.and_false, Bool.false_and, Bool.or_true, Bool.true_or, Bool.or_false, Bool.false_or, beq_self_eq_true, dTT, dFF, dT, dF, bigI, big0, qg7, qi9, qja, List.length_set, List.length_replicate, Int.toNat_natCast, qb1, qb2, imax, imin, qat, g, t0, qar]
theorem qf0 (k : Nat) (hk : 2000000 ≤ k) (fu : List (Nat × Nat)) (z z' : Bool) (l : List (List RC)) (hl : l.length ≤ 100) (hr : ∀ i, i < l.length → qfy (rrow l i)) : ∀ (m N i : Nat), i + m = l.length → m < N →
    ∃ x, lp (k + 9) slices_IndexFunc_impl_State_impl_State [] fu 2 (N) (qh5 (l.length : Int) (i : Int) z l z' l) = some [.int .i64 x] ∧ decide (0 ≤ x) = !askF l m i
  | 0, N + 1, i, hi, hN => by
    refine ⟨-1, ?_, rfl⟩
    rw [qfj]
    simp (disch := omega) only [qah, nth0, nth1, nth2, nth3, bit, qb3, qb4, qcf, qck, qcl, qcm, qcn, qco, qcp, qcq, qb5, qb6, qb7, qb8, qb9, qca, qcb, qcc, qcd, qce, qcg, qch, qci, qcj, qix, qiw, qiy, qg8, qhg, qhh, qe0, qai, qiq, nI, qcw, qcu, Bool.not_true, Bool.not_false, Bool.and_true, Bool.true_and, Bool.and_false, Bool.false_and, Bool.or_true, Bool.true_or, Bool.or_false, Bool.false_or, beq_self_eq_true, dTT, dFF, dT, dF, bigI, big0, qg7, qi9, qja, List.length_set, List.length_replicate, Int.toNat_natCast, qb1, qb2, imax, imin]
  | m + 1, N + 1, i, hi, hN => by
    rw [qfj, askF]
    have e := qam k (by omega) z' l (rrow l i) (by omega) (hr i (by omega))
    cases g : (qim (rrow l i) && qil (rrow l i) (rrow l 0))
    · rw [g] at e
      exact ⟨(i : Int), by simp (disch := omega) only [qah, nth0, nth1, nth2, nth3, bit, qb3, qb4, qcf, qck, qcl, qcm, qcn, qco, qcp, qcq, qb5, qb6, qb7, qb8, qb9, qca, qcb, qcc, qcd, qce, qcg, qch, qci, qcj, qix, qiw, qiy, qg8, qhg, qhh, qe0, qai, qiq, nI, qcw, qcu, Bool.not_true, Bool.not_false, Bool.and_true, Bool.true_and, Bool.and_false, Bool.false_and, Bool.or_true, Bool.true_or, Bool.or_false, Bool.false_or, beq_self_eq_true, dTT, dFF, dT, dF, bigI, big0, qg7, qi9, qja, List.length_set, List.length_replicate, Int.toNat_natCast, qb1, qb2, imax, imin, e], by rw [Bool.false_and]; exact dT (by omega)⟩
    · rw [g] at e
      obtain ⟨x, e2, p⟩ := qf0 k hk fu z z' l hl hr m N (i + 1) (by omega) (by omega)
      exact ⟨x, by
        simp (disch := omega) only [qah, nth0, nth1, nth2, nth3, bit, qb3, qb4, qcf, qck, qcl, qcm, qcn, qco, qcp, qcq, qb5, qb6, qb7, qb8, qb9, qca, qcb, qcc, qcd, qce, qcg, qch, qci, qcj, qix, qiw, qiy, qg8, qhg, qhh, qe0, qai, qiq, nI, qcw, qcu, Bool.not_true, Bool.not_false, Bool.and_true, Bool.true_and, Bool.and_false, Bool.false_and, Bool.or_true, Bool.true_or, Bool.or_false, Bool.false_or, beq_self_eq_true, dTT, dFF, dT, dF, bigI, big0, qg7, qi9, qja, List.length_set, List.length_replicate, Int.toNat_natCast, qb1, qb2, imax, imin, e]
        exact e2, by rw [Bool.true_and]; exact p⟩
theorem qfz (k : Nat) (hk : 2000000 ≤ k) (fu : List (Nat × Nat)) (z : Bool) (l : List (List RC)) (hl : l.length ≤ 100) (hr : ∀ i, i < l.length → qfy (rrow l i)) : ∀ (m N i : Nat), i + m = l.length → m < N →
    lp (k + 7) spec_l34Ask [] fu 4 (N) (qif (i : Int) z l) = some [.bool (askF l m i)]
  | 0, N + 1, i, hi, hN => by
    rw [qft]
    simp (disch := omega) only [qah, nth0, nth1, nth2, nth3, bit, qb3, qb4, qcf, qck, qcl, qcm, qcn, qco, qcp, qcq, qb5, qb6, qb7, qb8, qb9, qca, qcb, qcc, qcd, qce, qcg, qch, qci, qcj, qix, qiw, qiy, qg8, qhg, qhh, qe0, qai, qiq, nI, qcw, qcu, Bool.not_true, Bool.not_false, Bool.and_true, Bool.true_and, Bool.and_false, Bool.false_and, Bool.or_true, Bool.true_or, Bool.or_false, Bool.false_or, beq_self_eq_true, dTT, dFF, dT, dF, bigI, big0, qg7, qi9, qja, List.length_set, List.length_replicate, Int.toNat_natCast, qb1, qb2, imax, imin]
    rfl
  | m + 1, N + 1, i, hi, hN => by
    rw [qft, askF]
    obtain ⟨h1, h2, h3, h4⟩ := hr i (by omega)
    have IH := qfz k hk fu z l hl hr m N (i + 1) (by omega) (by omega)
    have t0 : Int.toNat 0 = 0 := rfl
    unfold qim qil
    cases g : stOk (rcAt (rrow l i) 0).num (rcAt (rrow l i) 1).r3s (rcAt (rrow l i) 2).ints (rcAt (rrow l i) 3).ints (rcAt (rrow l i) 4).ints
    · simp (disch := omega) only [qah, nth0, nth1, nth2, nth3, bit, qb3, qb4, qcf, qck, qcl, qcm, qcn, qco, qcp, qcq, qb5, qb6, qb7, qb8, qb9, qca, qcb, qcc, qcd, qce, qcg, qch, qci, qcj, qix, qiw, qiy, qg8, qhg, qhh, qe0, qai, qiq, nI, qcw, qcu, Bool.not_true, Bool.not_false, Bool.and_true, Bool.true_and, Bool.and_false, Bool.false_and, Bool.or_true, Bool.true_or, Bool.or_false, Bool.false_or, beq_self_eq_true, dTT, dFF, dT, dF, bigI, big0, qg7, qi9, qja, List.length_set, List.length_replicate, Int.toNat_natCast, qb1, qb2, imax, imin, qbv, g]
    cases g2 : qig (rcAt (rrow l i) 0).num (rcAt (rrow l 0) 0).num (rcAt (rrow l i) 1).r3s (rcAt (rrow l 0) 1).r3s
    · simp (disch := omega) only [qah, nth0, nth1, nth2, nth3, bit, qb3, qb4, qcf, qck, qcl, qcm, qcn, qco, qcp, qcq, qb5, qb6, qb7, qb8, qb9, qca, qcb, qcc, qcd, qce, qcg, qch, qci, qcj, qix, qiw, qiy, qg8, qhg, qhh, qe0, qai, qiq, nI, qcw, qcu, Bool.not_true, Bool.not_false, Bool.and_true, Bool.true_and, Bool.and_false, Bool.false_and, Bool.or_true, Bool.true_or, Bool.or_false, Bool.false_or, beq_self_eq_true, dTT, dFF, dT, dF, bigI, big0, qg7, qi9, qja, List.length_set, List.length_replicate, Int.toNat_natCast, qb1, qb2, imax, imin, qbv, g, t0, qbt, g2]
    · simp (disch := omega) only [qah, nth0, nth1, nth2, nth3, bit, qb3, qb4, qcf, qck, qcl, qcm, qcn, qco, qcp, qcq, qb5, qb6, qb7, qb8, qb9, qca, qcb, qcc, qcd, qce, qcg, qch, qci, qcj, qix, qiw, qiy, qg8, qhg, qhh, qe0, qai, qiq, nI, qcw, qcu, Bool.not_true, Bool.not_false, Bool.and_true, Bool.true_and, Bool.and_false, Bool.false_and, Bool.or_true, Bool.true_or, Bool.or_false, Bool.false_or, beq_self_eq_true, dTT, dFF, dT, dF, bigI, big0, qg7, qi9, qja, List.length_set, List.length_replicate, Int.toNat_natCast, qb1, qb2, imax, imin, qbv, g, t0, qbt, g2]
      exact IH
end Go.Proofs.Ytcaapedadpnjoaa
end
section
namespace Go.Proofs.Ytcaapedadpnjoaa
open Go Go.RowKit Go.Ev
set_option maxRecDepth 20000
def qfx (r : List RC) : Prop := ((rcAt r 1).r3s.length : Int) ≤ 9223372036854775807 ∧ ((rcAt r 2).ints.length : Int) ≤ 9223372036854775807 ∧ ((rcAt r 3).ints.length : Int) ≤ 9223372036854775807 ∧ ((rcAt r 4).ints.length : Int) ≤ 9223372036854775807
theorem qgp (k : Nat) (hk : 2000000 ≤ k) (fu : List (Nat × Nat)) (z : Bool) (l : List (List RC)) (hl : (l.length : Int) ≤ 1048576) (hf : ∀ i, i < l.length → qfx (rrow l i)) : ∀ (m N i : Nat) (x : Int), i + m = l.length → 0 ≤ x ∧ x ≤ 1048576 → m < N →
    ∃ y, lp (k + 3) laws_szStateS [] fu 5 (N) (qh1 x (i : Int) z l) = some [.int .i64 y] ∧ (y < 0 ∨ (0 ≤ y ∧ y ≤ 1048576 ∧ ∀ j, i ≤ j → j < l.length → qfy (rrow l j)))
  | 0, N + 1, i, x, hi, hx, hN => by
    refine ⟨x, ?_, .inr ⟨hx.1, hx.2, fun j h1 h2 => by omega⟩⟩
    rw [qff]
    simp (disch := omega) only [qah, nth0, nth1, nth2, nth3, bit, qb3, qb4, qcf, qck, qcl, qcm, qcn, qco, qcp, qcq, qb5, qb6, qb7, qb8, qb9, qca, qcb, qcc, qcd, qce, qcg, qch, qci, qcj, qix, qiw, qiy, qg8, qhg, qhh, qe0, qai, qiq, nI, qcw, qcu, Bool.not_true, Bool.not_false, Bool.and_true, Bool.true_and, Bool.and_false, Bool.false_and, Bool.or_true, Bool.true_or, Bool.or_false, Bool.false_or, beq_self_eq_true, dTT, dFF, dT, dF, bigI, big0, qg7, qi9, qja, List.length_set, List.length_replicate, Int.toNat_natCast, qb1, qb2, imax, imin]
  | m + 1, N + 1, i, x, hi, hx, hN => by
    rw [qff]
    obtain ⟨f1, f2, f3, f4⟩ := hf i (by omega)
    have e := qbg k (by omega) (rcAt (rrow l i) 0).num (rcAt (rrow l i) 1).nil (rcAt (rrow l i) 1).r3s (rcAt (rrow l i) 2).nil (rcAt (rrow l i) 2).ints (rcAt (rrow l i) 3).nil (rcAt (rrow l i) 3).ints (rcAt (rrow l i) 4).nil (rcAt (rrow l i) 4).ints x f1 f2 f3 f4 hx.1 hx.2
    by_cases h : ((rcAt (rrow l i) 1).r3s.length : Int) + (rcAt (rrow l i) 2).ints.length + (rcAt (rrow l i) 3).ints.length + (rcAt (rrow l i) 4).ints.length ≤ x
    case neg =>
      rw [if_neg h] at e
      exact ⟨-1, by simp (disch := omega) only [qah, nth0, nth1, nth2, nth3, bit, qb3, qb4, qcf, qck, qcl, qcm, qcn, qco, qcp, qcq, qb5, qb6, qb7, qb8, qb9, qca, qcb, qcc, qcd, qce, qcg, qch, qci, qcj, qix, qiw, qiy, qg8, qhg, qhh, qe0, qai, qiq, nI, qcw, qcu, Bool.not_true, Bool.not_false, Bool.and_true, Bool.true_and, Bool.and_false, Bool.false_and, Bool.or_true, Bool.true_or, Bool.or_false, Bool.false_or, beq_self_eq_true, dTT, dFF, dT, dF, bigI, big0, qg7, qi9, qja, List.length_set, List.length_replicate, Int.toNat_natCast, qb1, qb2, imax, imin, e], .inl (by omega)⟩
    rw [if_pos h] at e
    obtain ⟨y, e2, p⟩ := qgp k hk fu z l hl hf m N (i + 1) (x - (rcAt (rrow l i) 1).r3s.length - (rcAt (rrow l i) 2).ints.length - (rcAt (rrow l i) 3).ints.length - (rcAt (rrow l i) 4).ints.length) (by omega) (by omega) (by omega)
    refine ⟨y, ?_, ?_⟩
    · simp (disch := omega) only [qah, nth0, nth1, nth2, nth3, bit, qb3, qb4, qcf, qck, qcl, qcm, qcn, qco, qcp, qcq, qb5, qb6, qb7, qb8, qb9, qca, qcb, qcc, qcd, qce, qcg, qch, qci, qcj, qix, qiw, qiy, qg8, qhg, qhh, qe0, qai, qiq, nI, qcw, qcu, Bool.not_true, Bool.not_false, Bool.and_true, Bool.true_and, Bool.and_false, Bool.false_and, Bool.or_true, Bool.true_or, Bool.or_false, Bool.false_or, beq_self_eq_true, dTT, dFF, dT, dF, bigI, big0, qg7, qi9, qja, List.length_set, List.length_replicate, Int.toNat_natCast, qb1, qb2, imax, imin, e]
      exact e2
    · rcases p with p | ⟨p1, p2, p3⟩
      · exact .inl p
      · refine .inr ⟨p1, p2, fun j h1 h2 => ?_⟩
        by_cases hj : j = i
        · subst hj; exact ⟨by omega, by omega, by omega, by omega⟩
        · exact p3 j (by omega) h2
theorem qbh (k : Nat) (hk : 2000000 ≤ k) (z : Bool) (l : List (List RC)) (hl : (l.length : Int) ≤ 9223372036854775807) (hf : ∀ i, i < l.length → qfx (rrow l i)) : ∃ y, go (k + 4) laws_szStateS [.rows z zSt l, .int .i64 1048576] = some [.int .i64 y] ∧ (y < 0 ∨ (0 ≤ y ∧ y ≤ 1048576 ∧ (l.length : Int) ≤ 1048576 ∧ ∀ j, j < l.length → qfy (rrow l j))) := by
  rw [qdy]
  by_cases h : (l.length : Int) ≤ 1048576
  case neg => exact ⟨-1, by simp (disch := omega) only [qah, nth0, nth1, nth2, nth3, bit, qb3, qb4, qcf, qck, qcl, qcm, qcn, qco, qcp, qcq, qb5, qb6, qb7, qb8, qb9, qca, qcb, qcc, qcd, qce, qcg, qch, qci, qcj, qix, qiw, qiy, qg8, qhg, qhh, qe0, qai, qiq, nI, qcw, qcu, Bool.not_true, Bool.not_false, Bool.and_true, Bool.true_and, Bool.and_false, Bool.false_and, Bool.or_true, Bool.true_or, Bool.or_false, Bool.false_or, beq_self_eq_true, dTT, dFF, dT, dF, bigI, big0, qg7, qi9, qja, List.length_set, List.length_replicate, Int.toNat_natCast, qb1, qb2, imax, imin], .inl (by omega)⟩
  obtain ⟨y, e, p⟩ := qgp k hk [] z l h hf l.length (k + 3) 0 (1048576 - l.length) (by omega) (by omega) (by omega)
  rw [show ((0 : Nat) : Int) = 0 from rfl] at e
  refine ⟨y, ?_, ?_⟩
  · simp (disch := omega) only [qah, nth0, nth1, nth2, nth3, bit, qb3, qb4, qcf, qck, qcl, qcm, qcn, qco, qcp, qcq, qb5, qb6, qb7, qb8, qb9, qca, qcb, qcc, qcd, qce, qcg, qch, qci, qcj, qix, qiw, qiy, qg8, qhg, qhh, qe0, qai, qiq, nI, qcw, qcu, Bool.not_true, Bool.not_false, Bool.and_true, Bool.true_and, Bool.and_false, Bool.false_and, Bool.or_true, Bool.true_or, Bool.or_false, Bool.false_or, beq_self_eq_true, dTT, dFF, dT, dF, bigI, big0, qg7, qi9, qja, List.length_set, List.length_replicate, Int.toNat_natCast, qb1, qb2, imax, imin]
    exact e
  · rcases p with p | ⟨p1, p2, p3⟩
    · exact .inl p
    · exact .inr ⟨p1, p2, h, fun j hj => p3 j (by omega) hj⟩
def qfw (r q : List RC) : Prop := (rcAt r 0).num = (rcAt q 0).num ∧ (rcAt r 1).r3s = (rcAt q 1).r3s ∧ (rcAt r 2).ints = (rcAt q 2).ints ∧ (rcAt r 3).ints = (rcAt q 3).ints ∧ (rcAt r 4).ints = (rcAt q 4).ints
theorem qf1 (k : Nat) (hk : 2000000 ≤ k) (fu : List (Nat × Nat)) (z z' : Bool) (l l' : List (List RC)) (hl : (l.length : Int) ≤ 1048576) (he : l'.length = l.length) (hf : ∀ i, i < l.length → qfy (rrow l i)) (ha : ∀ i, i < l.length → qfw (rrow l' i) (rrow l i)) : ∀ (n i : Nat), i ≤ l.length → l.length - i < n →
    lp (k + 4) laws_eqStateS [] fu 4 (n) (qhx (i : Int) z l z' l') = some [.bool true]
  | 0, i, hi, hn => by omega
  | n + 1, i, hi, hn => by
    rw [qfb]
    by_cases g : i < l.length
    · have IH := qf1 k hk fu z z' l l' hl he hf ha n (i + 1) (by omega) (by omega)
      obtain ⟨f1, f2, f3, f4⟩ := hf i g
      obtain ⟨a0, a1, a2, a3, a4⟩ := ha i g
      have e := qa8 k (by omega) (rcAt (rrow l i) 0).num (rcAt (rrow l i) 1).nil (rcAt (rrow l i) 2).nil (rcAt (rrow l i) 3).nil (rcAt (rrow l i) 4).nil (rcAt (rrow l' i) 1).nil (rcAt (rrow l' i) 2).nil (rcAt (rrow l' i) 3).nil (rcAt (rrow l' i) 4).nil (rcAt (rrow l i) 1).r3s (rcAt (rrow l i) 2).ints (rcAt (rrow l i) 3).ints (rcAt (rrow l i) 4).ints f1 f2 f3 f4
      simp (disch := omega) only [qah, nth0, nth1, nth2, nth3, bit, qb3, qb4, qcf, qck, qcl, qcm, qcn, qco, qcp, qcq, qb5, qb6, qb7, qb8, qb9, qca, qcb, qcc, qcd, qce, qcg, qch, qci, qcj, qix, qiw, qiy, qg8, qhg, qhh, qe0, qai, qiq, nI, qcw, qcu, Bool.not_true, Bool.not_false, Bool.and_true, Bool.true_and, Bool.and_false, Bool.false_and, Bool.or_true, Bool.true_or, Bool.or_false, Bool.false_or, beq_self_eq_true, dTT, dFF, dT, dF, bigI, big0, qg7, qi9, qja, List.length_set, List.length_replicate, Int.toNat_natCast, qb1, qb2, imax, imin, he, a0, a1, a2, a3, a4, e]
      exact IH
    · simp (disch := omega) only [qah, nth0, nth1, nth2, nth3, bit, qb3, qb4, qcf, qck, qcl, qcm, qcn, qco, qcp, qcq, qb5, qb6, qb7, qb8, qb9, qca, qcb, qcc, qcd, qce, qcg, qch, qci, qcj, qix, qiw, qiy, qg8, qhg, qhh, qe0, qai, qiq, nI, qcw, qcu, Bool.not_true, Bool.not_false, Bool.and_true, Bool.true_and, Bool.and_false, Bool.false_and, Bool.or_true, Bool.true_or, Bool.or_false, Bool.false_or, beq_self_eq_true, dTT, dFF, dT, dF, bigI, big0, qg7, qi9, qja, List.length_set, List.length_replicate, Int.toNat_natCast, qb1, qb2, imax, imin]
theorem qa9 (k : Nat) (hk : 2000000 ≤ k) (z z' : Bool) (l l' : List (List RC)) (hl : (l.length : Int) ≤ 1048576) (he : l'.length = l.length) (hf : ∀ i, i < l.length → qfy (rrow l i)) (ha : ∀ i, i < l.length → qfw (rrow l' i) (rrow l i)) : go (k + 5) laws_eqStateS [.rows z zSt l, .rows z' zSt l'] = some [.bool true] := by
  rw [qdq]
  have e := qf1 k hk [] z z' l l' hl he hf ha (k + 4) 0 (by omega) (by omega)
  rw [show ((0 : Nat) : Int) = 0 from rfl] at e
  simp (disch := omega) only [qah, nth0, nth1, nth2, nth3, bit, qb3, qb4, qcf, qck, qcl, qcm, qcn, qco, qcp, qcq, qb5, qb6, qb7, qb8, qb9, qca, qcb, qcc, qcd, qce, qcg, qch, qci, qcj, qix, qiw, qiy, qg8, qhg, qhh, qe0, qai, qiq, nI, qcw, qcu, Bool.not_true, Bool.not_false, Bool.and_true, Bool.true_and, Bool.and_false, Bool.false_and, Bool.or_true, Bool.true_or, Bool.or_false, Bool.false_or, beq_self_eq_true, dTT, dFF, dT, dF, bigI, big0, qg7, qi9, qja, List.length_set, List.length_replicate, Int.toNat_natCast, qb1, qb2, imax, imin, he]
  exact e
end Go.Proofs.Ytcaapedadpnjoaa
end
section
namespace Go.Proofs.Ytcaapedadpnjoaa
open Go Go.RowKit Go.Ev
theorem qi2 {w w' : World} {l : List (List RC)} (I : TssI w l l.length w') : ∃ F, RepD w' (.rows false zSt (l.map cpSt)) (.slice (some ⟨w.heap.size, 0, none⟩) l.length l.length) F ∧ Still F := by
  obtain ⟨uss, hR, hC, hT, hI, hF, hS⟩ := I
  rw [List.take_length] at hR
  refine ⟨_, by
    simp only [RepD]
    refine ⟨⟨some ⟨w.heap.size, 0, none⟩, l.length, l.length, 5, uss⟩, rfl, ⟨by simp, rfl, by simp, (fun h => by cases h), (fun x hx => ?_), (fun h => by cases h), hR⟩, rfl⟩
    simp only [Option.some.injEq] at hx
    subst hx
    refine ⟨Nat.le_refl _, fun j u hj => ?_⟩
    have := hC j u hj
    rwa [Addr.add_mid], fun A hA => ?_⟩
  rcases List.mem_cons.1 hA with rfl | hA
  · rfl
  · rw [List.mem_singleton.1 hA]
theorem qi0 {w w' : World} {l : List (List RC)} {k : Nat} (I : TssI w l k w') : RowKit.Below w.heap.size w w' := by
  obtain ⟨_, _, _, _, _, hF, _⟩ := I
  exact qet hF fun b off hb h => by omega
theorem qi1 {az : Bool} {l : List (List RC)} (hl : l.length ≤ 1048576) (hok : ∀ i, i < l.length → okSt (rrow l i) = true) {w : World} {v : Value} {F : Feet} (hd : RepD w (.rows az zSt l) v F) :
    Calls Try.prog 24 #[v] w fun e w' => e = .returned (.slice (some ⟨w.heap.size, 0, none⟩) l.length l.length) ∧ TssI w l l.length w' := by
  simp only [RepD] at hd
  obtain ⟨p, rfl, ⟨q1, q2, q3, q4, q5, _, q7⟩, _⟩ := hd
  rw [← q1]
  exact qi3 (z := az) hl hok w p.base p.cap p.inn q7 (fun x hx => (q5 x hx).2) (fun h => by have := (q4 h).2; omega) (by
    cases h : p.base with
    | none => exact .inr rfl
    | some x => have := (q5 x h).1; exact .inl (by omega))
theorem qiu {w W1 W : World} {l : List (List RC)} (I : TssI w l l.length W1) (hb : RowKit.Below W1.heap.size W1 W) :
    ∃ uss : List (List Value), uss.length = l.length ∧ (∀ us ∈ uss, us.length = 5) ∧ TmI W w.heap.size W1.heap.size uss 0 1 W := by
  obtain ⟨uss, hR, hC, hT, hO, hF, hS⟩ := I
  have u5 : ∀ us ∈ uss, us.length = 5 := hR.all
  have ul : uss.length = l.length := by rw [hR.len, List.length_map, List.take_length]
  have hC' : W.rangeAt w.heap.size 0 uss.flatten := qhi hb hS hC
  refine ⟨uss, ul, u5, ⟨⟨w.heap.size + 1, by omega, ?_⟩, fun j _ hj c v hv => ?_, ?_, Fr.refl _ _, ⟨hS, hb.size⟩, by omega, by simp⟩⟩
  · rw [List.drop_zero]
    exact hO.frame (N := fun _ _ => False) (fr_of_below hb) fun _ _ _ _ h => h
  · obtain ⟨_, _, g3⟩ := hR.get (i := j) (by rw [List.length_map, List.take_length, ← ul]; exact hj)
    have e : (uss.getD j [])[c]? = uss.flatten[j * 5 + c]? := by
      rw [← g3]
      have hc : c < 5 := by
        have := (List.getElem?_eq_some_iff.1 hv).1
        have h5' := u5 _ (qew hj [])
        omega
      rw [List.getElem?_take, if_pos (show c < zSt.length from hc), List.getElem?_drop]
      rfl
    rw [e] at hv
    have := hC' _ v hv
    rwa [Nat.zero_add] at this
  · rw [ul]
    exact qis (M := fun _ _ => False) hb hT
end Go.Proofs.Ytcaapedadpnjoaa
end
